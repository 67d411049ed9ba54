/- Plain: a text is a domain by the program just where it is one by the reference. -/
import Derived.Test.YtfijkimkdccioaaDoorQFnDialbackx2
import Derived.Test.YtfijkimkdccioaaDoorQFnDialbackx3
import Derived.Test.YtfijkimkdccioaaDoorQFnDialbackx9
import Derived.Lib.SlTrimSet
import Derived.Lib.IndexMore
import Derived.Lib.IndexBytes
import Derived.Lib.IndexLaws
set_option linter.unusedSimpArgs false
set_option linter.unusedVariables false
namespace Go.Proofs.YtfijkimkdccioaaDoor.QFnDialback
open Go Go.RowKit Go.Proofs.YtfijkimkdccioaaDoorW.PrintWords

theorem wrap64_at (n : Int) (h : -9223372036854775808 ≤ n ∧ n ≤ 9223372036854775807) : wrap64 n = n := by unfold wrap64; omega

theorem dropWhile_nil {α : Type} (p : α → Bool) : ∀ l : List α, l.dropWhile p = [] ↔ ∀ x ∈ l, p x = true
  | [] => by simp
  | a :: l => by
    have ih := dropWhile_nil p l
    by_cases h : p a = true
    · simp only [List.dropWhile_cons, h, if_true, ih, List.mem_cons, forall_eq_or_imp, true_and]
    · simp only [List.dropWhile_cons, h, if_false, List.mem_cons, forall_eq_or_imp, false_and]
      simp [h]
theorem dropWhile_head {α : Type} (p : α → Bool) : ∀ (l : List α) a r, l.dropWhile p = a :: r → p a = false
  | [], a, r, h => by simp at h
  | b :: l, a, r, h => by
    by_cases hb : p b = true
    · rw [List.dropWhile_cons, if_pos hb] at h
      exact dropWhile_head p l a r h
    · rw [List.dropWhile_cons, if_neg hb] at h
      obtain ⟨rfl, _⟩ := List.cons.inj h
      simpa using hb
theorem dropWhile_len {α : Type} (p : α → Bool) : ∀ l : List α, (l.dropWhile p).length ≤ l.length
  | [] => by simp
  | b :: l => by
    have := dropWhile_len p l
    rw [List.dropWhile_cons]
    split
    · simp only [List.length_cons]; omega
    · exact Nat.le_refl _
theorem dropWhile_self {α : Type} (p : α → Bool) (l : List α) : l.dropWhile p = l ↔ ∀ a r, l = a :: r → p a = false := by
  cases l with
  | nil => simp
  | cons b l =>
    constructor
    · intro h a r e
      exact dropWhile_head p (b :: l) a r (h.trans e)
    · intro h
      rw [List.dropWhile_cons, if_neg (by rw [h b l rfl]; decide)]

/-- Nothing is left of a text from which signs are trimmed just where all its bytes are such signs. -/
theorem trim_nil (l cs : List UInt8) : Lib.trimS l cs = [] ↔ ∀ x ∈ l, cs.contains x = true := by
  unfold Lib.trimS Lib.trimLeftS Lib.trimRightS
  constructor
  · intro h x hx
    rw [dropWhile_nil] at h
    cases hd : l.reverse.dropWhile (cs.contains ·) with
    | nil =>
      rw [dropWhile_nil] at hd
      exact hd x (List.mem_reverse.2 hx)
    | cons a r =>
      have h1 := dropWhile_head _ _ _ _ hd
      have h2 := h a (by rw [hd]; simp)
      rw [h1] at h2
      cases h2
  · intro h
    have h1 : l.reverse.dropWhile (cs.contains ·) = [] := (dropWhile_nil _ _).2 (fun y hy => h y (List.mem_reverse.1 hy))
    rw [h1]
    rfl
/-- All of a text is left just where it begins and ends in none of the signs. -/
theorem trim_self (l cs : List UInt8) : Lib.trimS l cs = l ↔ (∀ a r, l = a :: r → cs.contains a = false) ∧ (∀ a r, l.reverse = a :: r → cs.contains a = false) := by
  unfold Lib.trimS Lib.trimLeftS Lib.trimRightS
  constructor
  · intro h
    have l1 := dropWhile_len (cs.contains ·) (l.reverse.dropWhile (cs.contains ·)).reverse
    have l2 := dropWhile_len (cs.contains ·) l.reverse
    have e1 := congrArg List.length h
    rw [List.length_reverse] at l1 l2
    have hr : l.reverse.dropWhile (cs.contains ·) = l.reverse := by
      have hs : (l.reverse.dropWhile (cs.contains ·)) <:+ l.reverse := List.dropWhile_suffix _
      exact hs.eq_of_length (by rw [List.length_reverse]; omega)
    have h2 := (dropWhile_self _ _).1 hr
    rw [hr, List.reverse_reverse] at h
    exact ⟨(dropWhile_self _ _).1 h, h2⟩
  · intro ⟨h1, h2⟩
    rw [(dropWhile_self _ _).2 h2, List.reverse_reverse]
    exact (dropWhile_self _ _).2 h1

theorem bt_mem (a : ByteArray) (j : Nat) (h : j < a.data.toList.length) : bt a (j : Int) = ((a.data.toList[j]'h).toNat : Int) := by
  have hs : j < a.size := by simpa using h
  rw [← bt_at a (j : Int) (by simpa using hs)]
  rfl

def plain (x : Int) : Prop := (97 ≤ x ∧ x ≤ 122) ∨ (48 ≤ x ∧ x ≤ 57) ∨ x = 46 ∨ x = 45
instance (x : Int) : Decidable (plain x) := by unfold plain; infer_instance
/-- A domain. -/
def domOk (a : ByteArray) : Prop := 1 ≤ a.size ∧ a.size ≤ 30 ∧ (∀ j : Nat, j < a.size → plain (bt a j)) ∧ (bt a 0 ≠ 46 ∧ bt a 0 ≠ 45) ∧ (bt a ((a.size - 1 : Nat) : Int) ≠ 46 ∧ bt a ((a.size - 1 : Nat) : Int) ≠ 45) ∧ ∀ j : Nat, j + 1 < a.size → ¬ (bt a ((j + 1 : Nat) : Int) = 46 ∧ bt a (j : Int) = 46)

abbrev S38 : ByteArray := ⟨#[97, 98, 99, 100, 101, 102, 103, 104, 105, 106, 107, 108, 109, 110, 111, 112, 113, 114, 115, 116, 117, 118, 119, 120, 121, 122, 48, 49, 50, 51, 52, 53, 54, 55, 56, 57, 46, 45]⟩
abbrev S2 : ByteArray := ⟨#[46, 45]⟩
theorem in38' : ∀ n : Fin 256, S38.data.toList.contains (UInt8.ofNat n.val) = decide (plain (n.val : Int)) := by decide +kernel
theorem in2' : ∀ n : Fin 256, S2.data.toList.contains (UInt8.ofNat n.val) = decide (n.val = 46 ∨ n.val = 45) := by decide +kernel
theorem in38 (b : UInt8) : S38.data.toList.contains b = decide (plain (b.toNat : Int)) := by
  have h := in38' ⟨b.toNat, b.toNat_lt⟩
  rw [show UInt8.ofNat (⟨b.toNat, b.toNat_lt⟩ : Fin 256).val = b from UInt8.ofNat_toNat] at h
  exact h
theorem in2 (b : UInt8) : S2.data.toList.contains b = decide (b.toNat = 46 ∨ b.toNat = 45) := by
  have h := in2' ⟨b.toNat, b.toNat_lt⟩
  rw [show UInt8.ofNat (⟨b.toNat, b.toNat_lt⟩ : Fin 256).val = b from UInt8.ofNat_toNat] at h
  exact h

/-! ### the reference -/
theorem plain_spec (x : Int) (k : Nat) : spec_l03Plain.f (k + 4) x S2 = some (decide (plain x)) := by
  have e0 : bt S2 0 = 46 := by decide
  have e1 : bt S2 1 = 45 := by decide
  have es : (S2.size : Int) = 2 := by decide
  have hl : spec_l03Plain.l0 (k + 3) x S2 0 = some (decide (x = 46 ∨ x = 45)) := by
    rw [spec_l03Plain.l0, es, if_pos (by decide), if_pos (by decide), e0]
    by_cases h : 46 = x
    · rw [if_pos h]; exact congrArg some (decide_eq_true (Or.inl h.symm)).symm
    · rw [if_neg h, wrap64_at _ (by decide), spec_l03Plain.l0, es, if_pos (by decide), if_pos (by decide), show ((0 : Int) + 1) = 1 from rfl, e1]
      by_cases h2 : 45 = x
      · rw [if_pos h2]; exact congrArg some (decide_eq_true (Or.inr h2.symm)).symm
      · rw [if_neg h2, wrap64_at _ (by decide), spec_l03Plain.l0, es, if_neg (by decide)]
        exact congrArg some (decide_eq_false (by omega)).symm
  have hj : ∀ b, spec_l03Plain.j0 (k + 4) x S2 b = some (b || decide (x = 46 ∨ x = 45)) := by
    intro b
    rw [spec_l03Plain.j0]
    cases b
    · rw [if_neg (by decide), hl, Bool.false_or]
    · rw [if_pos rfl, Bool.true_or]
  unfold spec_l03Plain.f
  rw [hj, hj, hj]
  unfold plain
  by_cases c1 : x ≥ 97
  · rw [if_pos c1]
    by_cases c2 : x ≤ 122
    · rw [if_pos c2, Bool.true_or]; exact congrArg some (decide_eq_true (by omega)).symm
    · rw [if_neg c2, if_pos (show x ≥ 48 by omega)]
      refine congrArg some ?_
      rw [decide_eq_false (show ¬ x ≤ 57 by omega), Bool.false_or]
      exact decide_eq_decide.2 (by omega)
  · rw [if_neg c1]
    by_cases c3 : x ≥ 48
    · rw [if_pos c3]
      refine congrArg some ?_
      rw [← Bool.decide_or]
      exact decide_eq_decide.2 (by omega)
    · rw [if_neg c3, Bool.false_or]
      exact congrArg some (decide_eq_decide.2 (by omega))

theorem dom_loop (a : ByteArray) (hs : a.size ≤ 1048576) : ∀ (k : Nat) (i : Nat), i ≤ a.size → a.size - i + 5 ≤ k →
    ∃ b : Bool, spec_l03Domain.l0 k a (a.size : Int) (i : Int) = some b ∧ (b = true ↔ ∀ j : Nat, i ≤ j → j < a.size → plain (bt a j) ∧ (0 < j → ¬ (bt a j = 46 ∧ bt a ((j - 1 : Nat) : Int) = 46)))
  | 0, i, h1, h2 => by omega
  | k + 1, i, h1, h2 => by
    rw [spec_l03Domain.l0]
    by_cases hi : (i : Int) < (a.size : Int)
    · rw [if_pos hi, if_pos (by omega), if_pos hi]
      obtain ⟨k', rfl⟩ : ∃ k', k = k' + 4 := ⟨k - 4, by omega⟩
      rw [plain_spec]
      simp only [Option.bind_some, decide_eq_true_eq]
      obtain ⟨b, e, hb⟩ := dom_loop a hs (k' + 4) (i + 1) (by omega) (by omega)
      rw [wrap64_at ((i : Int) + 1) (by omega), show ((i : Int) + 1) = ((i + 1 : Nat) : Int) by omega]
      have hF : (¬ (plain (bt a i) ∧ (0 < i → ¬ (bt a i = 46 ∧ bt a ((i - 1 : Nat) : Int) = 46)))) → ∃ b' : Bool, some false = some b' ∧ (b' = true ↔ ∀ j : Nat, i ≤ j → j < a.size → plain (bt a j) ∧ (0 < j → ¬ (bt a j = 46 ∧ bt a ((j - 1 : Nat) : Int) = 46))) :=
        fun ho => ⟨false, rfl, ⟨fun h => (by cases h), fun h => absurd (h i (Nat.le_refl _) (by omega)) ho⟩⟩
      have hT : (plain (bt a i) ∧ (0 < i → ¬ (bt a i = 46 ∧ bt a ((i - 1 : Nat) : Int) = 46))) → ∃ b' : Bool, spec_l03Domain.l0 (k' + 4) a (a.size : Int) ((i + 1 : Nat) : Int) = some b' ∧ (b' = true ↔ ∀ j : Nat, i ≤ j → j < a.size → plain (bt a j) ∧ (0 < j → ¬ (bt a j = 46 ∧ bt a ((j - 1 : Nat) : Int) = 46))) := by
        intro ho
        refine ⟨b, e, hb.trans ⟨fun h j h3 h4 => ?_, fun h j h3 h4 => h j (by omega) h4⟩⟩
        by_cases hj : j = i
        · subst hj; exact ho
        · exact h j (by omega) h4
      by_cases hp : plain (bt a i)
      · rw [if_pos hp]
        by_cases h0 : (i : Int) > 0
        · rw [if_pos h0]
          have hw : wrap64 ((i : Int) - 1) = ((i - 1 : Nat) : Int) := by rw [wrap64_at _ (by omega)]; omega
          by_cases h46 : bt a i = 46
          · rw [if_pos h46, hw, if_pos (by omega), if_pos (by omega)]
            by_cases hq : bt a ((i - 1 : Nat) : Int) = 46
            · rw [if_pos hq]; exact hF (fun h => h.2 (by omega) ⟨h46, hq⟩)
            · rw [if_neg hq]; exact hT ⟨hp, fun _ h => hq h.2⟩
          · rw [if_neg h46]; exact hT ⟨hp, fun _ h => h46 h.1⟩
        · rw [if_neg h0]; exact hT ⟨hp, fun h => by omega⟩
      · rw [if_neg hp]; exact hF (fun h => hp h.1)
    · rw [if_neg hi]
      exact ⟨true, rfl, ⟨fun _ j h3 h4 => by omega, fun _ => rfl⟩⟩

theorem spec_domain (a : ByteArray) (hs : a.size ≤ 1048576) (k : Nat) (hk : a.size + 10 ≤ k) : ∃ b : Bool, spec_l03Domain.f k a = some b ∧ (b = true ↔ domOk a) := by
  obtain ⟨k', rfl⟩ : ∃ k', k = k' + 1 := ⟨k - 1, by omega⟩
  have hj1 : spec_l03Domain.j0 (k' + 1) a (a.size : Int) true = some false := by rw [spec_l03Domain.j0, if_pos rfl]
  unfold spec_l03Domain.f
  have hF : ¬ domOk a → ∃ b : Bool, spec_l03Domain.j0 (k' + 1) a (a.size : Int) true = some b ∧ (b = true ↔ domOk a) := fun h => ⟨false, hj1, ⟨fun h => (by cases h), fun h' => absurd h' h⟩⟩
  by_cases c1 : (a.size : Int) < 1
  · rw [if_pos c1]; exact hF (fun h => by have := h.1; omega)
  · rw [if_neg c1]
    by_cases c2 : (a.size : Int) > 30
    · rw [if_pos c2]; exact hF (fun h => by have := h.2.1; omega)
    · rw [if_neg c2, if_pos (by omega)]
      have hw : wrap64 ((a.size : Int) - 1) = ((a.size - 1 : Nat) : Int) := by rw [wrap64_at _ (by omega)]; omega
      by_cases c3 : bt a 0 = 46
      · rw [if_pos c3]; exact hF (fun h => h.2.2.2.1.1 c3)
      · rw [if_neg c3]
        by_cases c4 : bt a 0 = 45
        · rw [if_pos c4]; exact hF (fun h => h.2.2.2.1.2 c4)
        · rw [if_neg c4, hw, if_pos (by omega), if_pos (by omega)]
          by_cases c5 : bt a ((a.size - 1 : Nat) : Int) = 46
          · rw [if_pos c5]; exact hF (fun h => h.2.2.2.2.1.1 c5)
          · rw [if_neg c5]
            by_cases c6 : bt a ((a.size - 1 : Nat) : Int) = 45
            · rw [beq_iff_eq.2 c6]; exact hF (fun h => h.2.2.2.2.1.2 c6)
            · rw [beq_eq_false_iff_ne.2 c6, spec_l03Domain.j0, if_neg (by decide)]
              obtain ⟨b, e, hb⟩ := dom_loop a hs k' 0 (by omega) (by omega)
              refine ⟨b, e, hb.trans ⟨fun h => ?_, fun h j _ h4 => ⟨h.2.2.1 j h4, fun h0 hq => ?_⟩⟩⟩
              · refine ⟨by omega, by omega, fun j hj => (h j (by omega) hj).1, ⟨c3, c4⟩, ⟨c5, c6⟩, fun j hj hq => ?_⟩
                exact (h (j + 1) (by omega) hj).2 (by omega) hq
              · have := h.2.2.2.2.2 (j - 1) (by omega)
                rw [show j - 1 + 1 = j by omega] at this
                exact this hq

/-! ### the program -/
theorem only_at (a cs : ByteArray) (hs : a.size ≤ 1048576) (h1 : cs.size < 4294967281) (h2 : (cs.data.toList.all fun b => decide (b.toNat < 128)) = true) :
    impl_only.f a cs = some (decide (∀ x ∈ a.data.toList, cs.data.toList.contains x = true)) := by
  unfold impl_only.f strings_Trim.f
  rw [if_pos (by omega), if_pos h1, if_pos h2]
  simp only [Option.bind_some]
  refine congrArg some ?_
  rw [ByteArray.toList_eq, Bool.eq_iff_iff, beq_iff_eq, decide_eq_true_iff]
  exact trim_nil _ _

theorem dd_iff (a : ByteArray) : Lib.contains a.data.toList [46, 46] = true ↔ ∃ j : Nat, j + 1 < a.size ∧ bt a ((j + 1 : Nat) : Int) = 46 ∧ bt a (j : Int) = 46 := by
  have hlen : a.data.toList.length = a.size := rfl
  have hocc : ∀ j : Nat, Lib.occAt a.data.toList [46, 46] j = true ↔ (j + 1 < a.size ∧ bt a ((j + 1 : Nat) : Int) = 46 ∧ bt a (j : Int) = 46) := by
    intro j
    unfold Lib.occAt
    by_cases hj : j + 1 < a.size
    · have h0 : j < a.data.toList.length := by omega
      have h1 : j + 1 < a.data.toList.length := by omega
      rw [bt_mem a j h0, bt_mem a (j + 1) h1, List.drop_eq_getElem_cons h0, List.drop_eq_getElem_cons h1]
      generalize a.data.toList[j] = x
      generalize a.data.toList[j + 1] = y
      simp only [List.isPrefixOf, Bool.and_true, Bool.and_eq_true, beq_iff_eq]
      constructor
      · rintro ⟨rfl, rfl⟩
        exact ⟨hj, by decide, by decide⟩
      · rintro ⟨_, hy, hx⟩
        exact ⟨(UInt8.toNat_inj.1 (show x.toNat = (46 : UInt8).toNat by have : (46 : UInt8).toNat = 46 := rfl; omega)).symm, (UInt8.toNat_inj.1 (show y.toNat = (46 : UInt8).toNat by have : (46 : UInt8).toNat = 46 := rfl; omega)).symm⟩
    · have hd : (a.data.toList.drop j).length ≤ 1 := by rw [List.length_drop]; omega
      constructor
      · intro h
        exfalso
        match hm : a.data.toList.drop j, hd, h with
        | [], _, h => simp [List.isPrefixOf] at h
        | [x], _, h => simp [List.isPrefixOf] at h
      · intro h
        omega
  unfold Lib.contains
  rcases Lib.index_spec a.data.toList [46, 46] with ⟨e, hn⟩ | ⟨i, e, hi, ho, _⟩
  · rw [e]
    constructor
    · intro h; simp at h
    · rintro ⟨j, hj⟩
      have := hn j (by omega)
      rw [(hocc j).2 hj] at this
      cases this
  · rw [e]
    constructor
    · intro _; exact ⟨i, (hocc i).1 ho⟩
    · intro _; exact decide_eq_true (by omega)

theorem part_iff (a : ByteArray) (hs : a.size ≤ 1048576) : ∃ b : Bool, impl_isDomainPart.f a = some b ∧ (b = true ↔ domOk a) := by
  have hlen : a.data.toList.length = a.size := rfl
  unfold impl_isDomainPart.f impl_in.f
  have hF : ¬ domOk a → ∃ b : Bool, some false = some b ∧ (b = true ↔ domOk a) := fun h => ⟨false, rfl, ⟨fun h => (by cases h), fun h' => absurd h' h⟩⟩
  by_cases c1 : (a.size : Int) ≥ 1
  · rw [if_pos c1]
    simp only [Option.bind_some, decide_eq_true_eq]
    by_cases c2 : (a.size : Int) ≤ 30
    · rw [if_pos c2, only_at a _ hs (by decide) (by decide +kernel)]
      simp only [Option.bind_some, decide_eq_true_eq]
      have hall : (∀ x ∈ a.data.toList, S38.data.toList.contains x = true) ↔ ∀ j : Nat, j < a.size → plain (bt a j) := by
        constructor
        · intro h j hj
          have hn : j < a.data.toList.length := by omega
          have := h _ (List.getElem_mem hn)
          rw [in38] at this
          rw [bt_mem a j hn]
          exact of_decide_eq_true this
        · intro h x hx
          obtain ⟨n, hn, rfl⟩ := List.mem_iff_getElem.1 hx
          have := h n (by omega)
          rw [bt_mem a n hn] at this
          rw [in38]
          exact decide_eq_true this
      by_cases c3 : ∀ x ∈ a.data.toList, S38.data.toList.contains x = true
      · rw [if_pos c3]
        unfold strings_Trim.f
        rw [if_pos (by omega), if_pos (by decide), if_pos (by decide +kernel)]
        simp only [Option.bind_some]
        rw [ByteArray.toList_eq, ByteArray.toList_eq]
        have h0 : 0 < a.data.toList.length := by omega
        have hn : a.size - 1 < a.data.toList.length := by omega
        have hb0 : bt a 0 = ((a.data.toList[0]'h0).toNat : Int) := bt_mem a 0 h0
        have hbn := bt_mem a (a.size - 1) hn
        have htr : Lib.trimS a.data.toList S2.data.toList = a.data.toList ↔ ((bt a 0 ≠ 46 ∧ bt a 0 ≠ 45) ∧ (bt a ((a.size - 1 : Nat) : Int) ≠ 46 ∧ bt a ((a.size - 1 : Nat) : Int) ≠ 45)) := by
          rw [trim_self, hb0, hbn]
          have e1 : ∀ x r, a.data.toList = x :: r → x = a.data.toList[0]'h0 := by
            intro x r e
            have : a.data.toList[0]? = some x := by rw [e]; rfl
            rw [List.getElem?_eq_getElem h0] at this
            exact (Option.some.inj this).symm
          have e2 : ∀ x r, a.data.toList.reverse = x :: r → x = a.data.toList[a.size - 1]'hn := by
            intro x r e
            have : a.data.toList.reverse[0]? = some x := by rw [e]; rfl
            rw [List.getElem?_reverse (by omega), show a.data.toList.length - 1 - 0 = a.size - 1 by omega, List.getElem?_eq_getElem hn] at this
            exact (Option.some.inj this).symm
          have s1 : ∃ r, a.data.toList = a.data.toList[0]'h0 :: r := ⟨a.data.toList.drop 1, by rw [← List.drop_eq_getElem_cons h0, List.drop_zero]⟩
          have s2 : ∃ x r, a.data.toList.reverse = x :: r := by
            cases hr : a.data.toList.reverse with
            | nil => have := congrArg List.length hr; rw [List.length_reverse, List.length_nil] at this; omega
            | cons x r => exact ⟨x, r, rfl⟩
          constructor
          · rintro ⟨g1, g2⟩
            obtain ⟨r, hr⟩ := s1
            have q1 := g1 _ r hr
            obtain ⟨x, r2, hr2⟩ := s2
            have q2 := g2 x r2 hr2
            rw [e2 x r2 hr2] at q2
            rw [in2] at q1 q2
            have q1' := of_decide_eq_false q1
            have q2' := of_decide_eq_false q2
            omega
          · rintro ⟨g1, g2⟩
            refine ⟨fun x r e => ?_, fun x r e => ?_⟩
            · rw [e1 x r e, in2]; exact decide_eq_false (by omega)
            · rw [e2 x r e, in2]; exact decide_eq_false (by omega)
        by_cases c4 : Lib.trimS a.data.toList S2.data.toList = a.data.toList
        · rw [if_pos c4]
          unfold strings_Contains.f
          rw [if_pos (by omega)]
          simp only [Option.bind_some]
          refine ⟨_, rfl, ?_⟩
          rw [Bool.not_eq_true', Bool.eq_false_iff]
          constructor
          · intro hd
            refine ⟨by omega, by omega, hall.1 c3, (htr.1 c4).1, (htr.1 c4).2, fun j hj hq => hd ?_⟩
            exact (dd_iff a).2 ⟨j, hj, hq⟩
          · intro h hd
            obtain ⟨j, hj, hq⟩ := (dd_iff a).1 hd
            exact h.2.2.2.2.2 j hj hq
        · rw [if_neg c4]; exact hF (fun h => c4 (htr.2 ⟨h.2.2.2.1, h.2.2.2.2.1⟩))
      · rw [if_neg c3]; exact hF (fun h => c3 (hall.2 h.2.2.1))
    · rw [if_neg c2]; exact hF (fun h => c2 (by have := h.2.1; omega))
  · rw [if_neg c1]
    simp only [Option.bind_some]
    rw [if_neg (by decide)]
    exact hF (fun h => c1 (by have := h.1; omega))

theorem printable_loop (a : ByteArray) (hs : a.size ≤ 1048576) : ∀ (k : Nat) (i : Nat), i ≤ a.size → a.size - i + 1 ≤ k →
    ∃ b : Bool, impl_isPrintable.l0 k a (a.size : Int) (i : Int) = some b ∧ (b = true → ∀ j : Nat, i ≤ j → j < a.size → bt a j ≤ 126)
  | 0, i, h1, h2 => by omega
  | k + 1, i, h1, h2 => by
    rw [impl_isPrintable.l0]
    by_cases hi : (i : Int) < (a.size : Int)
    · have hbt := bt_range a i
      rw [if_pos hi, if_pos (by omega), if_pos hi, wrap64_at (bt a i) (by omega)]
      unfold impl_in.f
      obtain ⟨b, e, hb⟩ := printable_loop a hs k (i + 1) (by omega) (by omega)
      have hF : ∃ b' : Bool, some false = some b' ∧ (b' = true → ∀ j : Nat, i ≤ j → j < a.size → bt a j ≤ 126) := ⟨false, rfl, fun h => (by cases h)⟩
      by_cases c1 : bt a i ≥ 32
      · rw [if_pos c1]
        simp only [Option.bind_some, decide_eq_true_eq]
        by_cases c2 : bt a i ≤ 126
        · rw [if_pos c2, wrap64_at ((i : Int) + 1) (by omega), show ((i : Int) + 1) = ((i + 1 : Nat) : Int) by omega]
          refine ⟨b, e, fun h j h3 h4 => ?_⟩
          by_cases hj : j = i
          · subst hj; exact c2
          · exact hb h j (by omega) h4
        · rw [if_neg c2]; exact hF
      · rw [if_neg c1]
        simp only [Option.bind_some]
        rw [if_neg (by decide)]
        exact hF
    · rw [if_neg hi]
      exact ⟨true, rfl, fun _ j h3 h4 => by omega⟩

theorem resource_some (a : ByteArray) (hs : a.size ≤ 1048576) (k : Nat) (hk : a.size + 1 ≤ k) : ∃ b : Bool, impl_isResource.f k a = some b := by
  unfold impl_isResource.f
  by_cases c1 : (a.size : Int) ≤ 30
  · rw [if_pos c1]
    unfold impl_isPrintable.f
    obtain ⟨b, e, hb⟩ := printable_loop a hs k 0 (by omega) (by omega)
    rw [show (0 : Int) = ((0 : Nat) : Int) from rfl, e]
    simp only [Option.bind_some]
    cases b
    · exact ⟨false, by rw [if_neg (by decide)]⟩
    · rw [if_pos rfl]
      unfold strings_ContainsAny.f
      have hall : (a.data.toList.all fun b => decide (b.toNat < 128)) = true := by
        refine List.all_eq_true.2 fun x hx => ?_
        obtain ⟨n, hn, rfl⟩ := List.mem_iff_getElem.1 hx
        have hlen : a.data.toList.length = a.size := rfl
        have := hb rfl n (by omega) (by omega)
        rw [bt_mem a n hn] at this
        exact decide_eq_true (by omega)
      rw [if_pos (by omega), if_pos (by decide), if_pos hall, if_pos (by decide +kernel)]
      exact ⟨_, rfl⟩
  · rw [if_neg c1]; exact ⟨false, rfl⟩

theorem local_some (a : ByteArray) (hs : a.size ≤ 1048576) : ∃ b : Bool, impl_isLocal.f a = some b := by
  unfold impl_isLocal.f
  by_cases c1 : (a.size : Int) ≤ 30
  · rw [if_pos c1, only_at a _ hs (by decide) (by decide +kernel)]
    exact ⟨_, rfl⟩
  · rw [if_neg c1]; exact ⟨false, rfl⟩

theorem right_some (l d r : ByteArray) (h1 : l.size ≤ 1048576) (h2 : d.size ≤ 1048576) (h3 : r.size ≤ 1048576) (k : Nat) (hk : r.size + 1 ≤ k) :
    ∃ b : Bool, impl_JidRight.f k l d r = some b ∧ (b = true → impl_isDomainPart.f d = some true) := by
  unfold impl_JidRight.f
  obtain ⟨b1, e1⟩ := local_some l h1
  obtain ⟨b2, e2, _⟩ := part_iff d h2
  obtain ⟨b3, e3⟩ := resource_some r h3 k hk
  rw [e1, e2, e3]
  cases b1 <;> cases b2 <;> simp

theorem text_some (l d r : ByteArray) (h1 : l.size ≤ 1048576) (h2 : d.size ≤ 1048576) (h3 : r.size ≤ 1048576) :
    ∃ t, impl_Jid_text.f l d r = some t ∧ (l.toList = [] → r.toList = [] → t = d) := by
  have z1 : (⟨#[47]⟩ : ByteArray).size = 1 := rfl
  have z2 : (⟨#[64]⟩ : ByteArray).size = 1 := rfl
  unfold impl_Jid_text.f
  by_cases c1 : l.toList = ([] : List UInt8)
  · rw [if_pos c1]
    by_cases c2 : r.toList = ([] : List UInt8)
    · rw [if_pos c2]; exact ⟨d, rfl, fun _ _ => rfl⟩
    · rw [if_neg c2, if_pos (by omega), if_pos (by rw [ByteArray.size_append, z1]; omega)]
      exact ⟨_, rfl, fun _ h => absurd h c2⟩
  · rw [if_neg c1, if_pos (by omega), if_pos (by rw [ByteArray.size_append, z2]; omega)]
    by_cases c2 : r.toList = ([] : List UInt8)
    · rw [if_pos c2]; exact ⟨_, rfl, fun h => absurd h c1⟩
    · rw [if_neg c2, if_pos (by omega), if_pos (by simp only [ByteArray.size_append, z1, z2]; omega)]
      exact ⟨_, rfl, fun h => absurd h c1⟩

theorem cut_small (s sep : List UInt8) : (Lib.cut s sep).1.length ≤ s.length ∧ (Lib.cut s sep).2.1.length ≤ s.length := by
  unfold Lib.cut
  split
  · simp only [List.length_take, List.length_drop]; omega
  · simp
theorem cut_none (s : List UInt8) (c : UInt8) (h : c ∉ s) : Lib.cut s [c] = (s, [], false) := by
  unfold Lib.cut
  rw [Lib.index_one]
  rw [if_neg]
  intro h0
  obtain ⟨o, ho⟩ := Int.eq_ofNat_of_zero_le h0
  have := (Lib.indexByte_some ho).1
  exact h (List.mem_of_getElem? this)

theorem toList_data (a : ByteArray) : a.toList = a.data.toList := ByteArray.toList_eq a
theorem bytes_eq {a b : ByteArray} (h : a.toList = b.toList) : a = b := by
  rw [toList_data, toList_data] at h
  cases a; cases b
  exact congrArg _ (Array.toList_inj.1 h)

/-- A text is a domain by the program just where it is one by the reference. -/
theorem impl_domain (a : ByteArray) (hs : a.size ≤ 1048576) (k : Nat) (hk : a.size + 1 ≤ k) : ∃ b : Bool, impl_isDomain.f k a = some b ∧ (b = true ↔ domOk a) := by
  obtain ⟨bp, ep, hp⟩ := part_iff a hs
  have hlen : a.data.toList.length = a.size := rfl
  unfold impl_isDomain.f impl_readJid.f strings_Cut.f
  rw [if_pos (by omega)]
  simp only [Option.bind_some]
  by_cases hd : domOk a
  · -- a domain: nothing is cut
    have hmem : ∀ c : UInt8, ¬ plain (c.toNat : Int) → c ∉ a.data.toList := by
      intro c hc hm
      obtain ⟨n, hn, e⟩ := List.mem_iff_getElem.1 hm
      have := hd.2.2.1 n (by omega)
      rw [bt_mem a n hn, e] at this
      exact hc this
    have c1 : Lib.cut a.data.toList (⟨#[47]⟩ : ByteArray).data.toList = (a.data.toList, [], false) := cut_none _ 47 (hmem 47 (by decide))
    have c2 : Lib.cut a.data.toList (⟨#[64]⟩ : ByteArray).data.toList = (a.data.toList, [], false) := cut_none _ 64 (hmem 64 (by decide))
    rw [c1]
    simp only
    have e1 : (⟨a.data.toList.toArray⟩ : ByteArray) = a := by cases a; simp
    rw [e1, if_pos (by omega), c2]
    simp only [Option.bind_some]
    rw [if_neg (by decide)]
    have hr : impl_JidRight.f k (⟨#[]⟩ : ByteArray) a (⟨([] : List UInt8).toArray⟩ : ByteArray) = some true := by
      unfold impl_JidRight.f
      have hloc : impl_isLocal.f (⟨#[]⟩ : ByteArray) = some true := by
        unfold impl_isLocal.f
        rw [if_pos (by decide), only_at _ _ (by decide) (by decide) (by decide +kernel)]
        simp
      rw [hloc, ep, hp.2 hd]
      simp only [Option.bind_some, if_true]
      unfold impl_isResource.f
      rw [if_pos (by decide)]
      unfold impl_isPrintable.f
      obtain ⟨k', rfl⟩ : ∃ k', k = k' + 1 := ⟨k - 1, by omega⟩
      rw [impl_isPrintable.l0, if_neg (by decide)]
      simp only [Option.bind_some, if_true]
      have hca : strings_ContainsAny.f (⟨([] : List UInt8).toArray⟩ : ByteArray) (⟨#[32, 47, 60, 62, 38, 39, 34]⟩ : ByteArray) = some false := by
        unfold strings_ContainsAny.f
        rw [if_pos (by decide), if_pos (by decide), if_pos (by decide), if_pos (by decide +kernel)]
        rfl
      rw [hca]
      rfl
    have ht : impl_Jid_text.f (⟨#[]⟩ : ByteArray) a (⟨([] : List UInt8).toArray⟩ : ByteArray) = some a := by
      obtain ⟨t, e, h⟩ := text_some (⟨#[]⟩ : ByteArray) a (⟨([] : List UInt8).toArray⟩ : ByteArray) (by decide) hs (by decide)
      rw [e, h (by rw [toList_data]) (by rw [toList_data])]
    rw [hr]
    simp only [Option.bind_some, if_true]
    rw [ht]
    simp only [Option.bind_some, beq_self_eq_true, if_true]
    rw [if_pos (by rw [toList_data])]
    refine ⟨_, rfl, ⟨fun _ => hd, fun _ => ?_⟩⟩
    rw [toList_data]; rfl
  · -- none: whatever is cut, the text read is no domain
    have hbp : bp = false := by
      cases bp with
      | false => rfl
      | true => exact absurd (hp.1 rfl) hd
    rw [hbp] at ep
    have q1 := cut_small a.data.toList (⟨#[47]⟩ : ByteArray).data.toList
    generalize Lib.cut a.data.toList (⟨#[47]⟩ : ByteArray).data.toList = x at q1
    obtain ⟨x1, x2, x3⟩ := x
    simp only at q1 ⊢
    have z1 : (⟨x1.toArray⟩ : ByteArray).size = x1.length := by simp [ByteArray.size]
    have z2 : (⟨x2.toArray⟩ : ByteArray).size = x2.length := by simp [ByteArray.size]
    rw [if_pos (by omega)]
    simp only [Option.bind_some]
    have q2 := cut_small x1 [64]
    generalize Lib.cut x1 [64] = y at q2 ⊢
    obtain ⟨y1, y2, y3⟩ := y
    simp only at q2 ⊢
    have z3 : (⟨y1.toArray⟩ : ByteArray).size = y1.length := by simp [ByteArray.size]
    have z4 : (⟨y2.toArray⟩ : ByteArray).size = y2.length := by simp [ByteArray.size]
    -- the common end: a Jid (l, d, r) that is right and whose text is 'a' is no domain
    have fin : ∀ l d r : ByteArray, l.size ≤ 1048576 → d.size ≤ 1048576 → r.size ≤ a.size →
        ∃ b : Bool, (((impl_JidRight.f k l d r).bind fun t => if t = true then ((impl_Jid_text.f l d r).bind fun t2 => some (l, d, r, t2.toList == a.toList)) else some (l, d, r, false)).bind
          fun bt => if bt.2.2.2 = true then (if bt.1.toList = ([] : List UInt8) then some (bt.2.2.1.toList == ([] : List UInt8)) else some false) else some false) = some b ∧ (b = true ↔ domOk a) := by
      intro l d r g1 g2 g3
      obtain ⟨b, eb, hb⟩ := right_some l d r g1 g2 (by omega) k (by omega)
      obtain ⟨t, et, ht⟩ := text_some l d r g1 g2 (by omega)
      rw [eb]
      simp only [Option.bind_some]
      have hno : ∃ b : Bool, some false = some b ∧ (b = true ↔ domOk a) := ⟨false, rfl, ⟨fun h => (by cases h), fun h => absurd h hd⟩⟩
      cases b with
      | false =>
        rw [if_neg (by decide)]
        simp only [Option.bind_some]
        rw [if_neg (by decide)]
        exact hno
      | true =>
        rw [if_pos rfl, et]
        simp only [Option.bind_some]
        by_cases w1 : (t.toList == a.toList) = true
        · rw [if_pos w1]
          by_cases w2 : l.toList = ([] : List UInt8)
          · rw [if_pos w2]
            by_cases w3 : r.toList = ([] : List UInt8)
            · exfalso
              have e1 := ht w2 w3
              have e2 := bytes_eq (beq_iff_eq.1 w1)
              have e3 := hb rfl
              rw [← e1, e2, ep] at e3
              cases e3
            · rw [beq_eq_false_iff_ne.2 w3]; exact hno
          · rw [if_neg w2]; exact hno
        · rw [if_neg w1]; exact hno
    by_cases hy : y3 = true
    · rw [if_pos hy]
      exact fin _ _ _ (by omega) (by omega) (by omega)
    · rw [if_neg hy]
      exact fin _ _ _ (by decide) (by omega) (by omega)
end Go.Proofs.YtfijkimkdccioaaDoor.QFnDialback
