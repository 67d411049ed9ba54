/- Proved: the law FnExactHalfDrop, called with any half, answers true. -/
import Derived.Test.YtnhmdanimcebkaaHalfRightFnExactHalfDrop
set_option linter.unusedVariables false
set_option linter.unusedSimpArgs false
namespace Go.Proofs.Ytnhmdanimcebkaa.QFnExactHalfDrop
open Go Go.RowKit Go.Proofs.YtnhmdanimcebkaaW.PrintWords

theorem drop_both (n o t i f : Int) : ∃ (a b c d e : Int) (l : List S43) (g : Int), l.length ≤ 2 ∧ spec_HalfDrop.f n o t i f = some (a, b, c, d, e, l, g) ∧ impl_HalfDrop.f n o t i f = some (a, b, c, d, e, l, g) := by
  unfold spec_HalfDrop.f impl_HalfDrop.f
  rw [right_impl, right_spec]
  simp only [Option.bind_some]
  generalize wrap64 (o + t) = x
  generalize wrap64 (i + f) = y
  cases rightB n o t i f with
  | false => exact ⟨0, 0, 0, 0, 0, [], 1, by simp, by simp [spec_l08Ill.f], by simp⟩
  | true =>
    by_cases hx : x = 0
    · by_cases hy : y = 0
      · exact ⟨n, 0, 0, 0, 0, [], 0, by simp, by simp [hx, hy], by simp [hx, hy]⟩
      · exact ⟨n, 0, 0, 0, 0, [⟨4, y⟩], 0, by simp, by simp [hx, hy], by simp [hx, hy]⟩
    · by_cases hy : y = 0
      · exact ⟨n, 0, 0, 0, 0, [⟨3, x⟩], 0, by simp, by simp [hx, hy], by simp [hx, hy]⟩
      · exact ⟨n, 0, 0, 0, 0, [⟨3, x⟩, ⟨4, y⟩], 0, by simp, by simp [hx, hy], by simp [hx, hy]⟩
theorem w0 : wrap64 1 = 1 := by unfold wrap64; omega
theorem w1 : wrap64 2 = 2 := by unfold wrap64; omega
theorem w2 : wrap64 3 = 3 := by unfold wrap64; omega
theorem w3 : wrap64 4 = 4 := by unfold wrap64; omega
theorem w4 : wrap64 5 = 5 := by unfold wrap64; omega
theorem eq_self (l : List S43) (hl : l.length ≤ 2) : laws_eqSubS.f 4 l l = some true := by
  match l, hl with
  | [], _ => simp [laws_eqSubS.f, laws_eqSubS.l0]
  | [x], _ => simp [laws_eqSubS.f, laws_eqSubS.l0, laws_eqSub.f, w0]
  | [x, y], _ => simp [laws_eqSubS.f, laws_eqSubS.l0, laws_eqSub.f, w0, w1]
theorem mark_held (l : List S43) (hl : l.length ≤ 2) : ∃ (m : Int) (l' : List S43), 0 < m ∧ laws_markSubS.f 4 l 1 = some (m, l') ∧ laws_heldSubS.f 4 l' 1 = some m := by
  match l, hl with
  | [], _ => exact ⟨1, [], by omega, by simp [laws_markSubS.f, laws_markSubS.l0], by simp [laws_heldSubS.f, laws_heldSubS.l0]⟩
  | [x], _ => exact ⟨3, [⟨1, 2⟩], by omega, by simp [laws_markSubS.f, laws_markSubS.l0, w0, w1, w2, rd_T43], by simp [laws_heldSubS.f, laws_heldSubS.l0, w0, w1, w2, rd_T43]⟩
  | [x, y], _ => exact ⟨5, [⟨1, 2⟩, ⟨3, 4⟩], by omega, by simp [laws_markSubS.f, laws_markSubS.l0, w0, w1, w2, w3, w4, rd_T43], by simp [laws_heldSubS.f, laws_heldSubS.l0, w0, w1, w2, w3, w4, rd_T43]⟩
theorem tells (n o t i f : Int) : laws_FnExactHalfDrop.f 4 n o t i f = some true := by
  unfold laws_FnExactHalfDrop.f laws_toHalf.f
  obtain ⟨a, b, c, d, e, l, g, hl, h1, h2⟩ := drop_both n o t i f
  obtain ⟨m, l', hm, h3, h4⟩ := mark_held l hl
  have h5 : laws_eqHalfOut.f 4 a b c d e l g a b c d e l g = some true := by
    unfold laws_eqHalfOut.f laws_eqHalf.f
    simp [eq_self l hl]
  have h6 : laws_markHalfOut.f 4 a b c d e l g 1 = some (m, l') := by
    unfold laws_markHalfOut.f
    rw [h3]
    rfl
  have h7 : laws_heldHalfOut.f 4 a b c d e l' g 1 = some m := by
    unfold laws_heldHalfOut.f
    rw [h4, Option.bind_some, if_neg (by omega)]
  simp only [Option.bind_some, h1, h2, h5, h6, h7, if_true]
  rw [if_neg (by omega), if_neg (by omega)]
theorem core (a0 a1 a2 a3 a4 : Int) (w0 : (Lit.int .i64 a0).wf = true) (w1 : (Lit.int .i64 a1).wf = true) (w2 : (Lit.int .i64 a2).wf = true) (w3 : (Lit.int .i64 a3).wf = true) (w4 : (Lit.int .i64 a4).wf = true) (w : World) :
    Calls Try.prog 14 #[.agg #[.int .i64 a0, .int .i64 a1, .int .i64 a2, .int .i64 a3, .int .i64 a4]] w fun e w' => e = .returned (.bool true) ∧ Below w.heap.size w w' :=
  laws_FnExactHalfDrop.calls 4 a0 a1 a2 a3 a4 true w (tells a0 a1 a2 a3 a4) rfl
end Go.Proofs.Ytnhmdanimcebkaa.QFnExactHalfDrop
