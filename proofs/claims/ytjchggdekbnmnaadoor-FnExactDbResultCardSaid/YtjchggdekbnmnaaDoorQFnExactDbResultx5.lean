-- laid by this session's own runner (wip/print2.py): not a printed file
import Derived.Test.YtjchggdekbnmnaaDoorQFnExactDbResultx0
import Derived.Test.YtjchggdekbnmnaaDoorQFnExactDbResultx4
namespace Go.Proofs.YtjchggdekbnmnaaDoor.QFnExactDbResult
open Go.RowKit Go.Proofs.YtjchggdekbnmnaaDoorW.PrintWords Go.Proofs.YtjchggdekbnmnaaDoorW.PrintLast Go.Proofs.YtjchggdekbnmnaaDoorW.PrintMore
attribute [local go_sem] max2_int min2_int max_two min_two max_three min_three max_four min_four   -- for this text's walks alone
set_option linter.unusedVariables false
set_option linter.unusedSimpArgs false

theorem zp {P : Program} {md : Region.Mode} {ops : Array Oper} {Q : Exit → Act → World → Prop} {S : World → Prop} {ds : List Nat} {T : Bool × List (List Nat × List Nat)} {fuel : Nat} {l : Array Bool} {a : Act} {w : World} {oi : Oper} {v : Value} {a' : Act} (i : Nat) (N : Option Tmp) (l' : Array Bool) (hT : Aside0 (rtab md ops = T))
    (h : wpAnyLast P md ops Q S ds fuel l' a' w) (hc : anyT T l.toList l'.toList i = true := by kernel_rfl) (hi : ops[i]? = some oi := by rfl) (hN : oi.dst = N := by rfl) (hQ : ∀ c a w, Q (.panic c) (a.put oi.dst v) w → Q (.panic c) a w := by exact fun _ _ _ h => h)
    (hy : Yields P ops oi v a := by (refine Or.inl ⟨by rfl, ?_⟩; intro w'; go_simp; with_reducible rfl)) (ha : a.put N v = a' := by (simp only [Act.put, List.setIfInBounds_toArray, List.set_cons_zero, List.set_cons_succ, i64_w, i32_w]; rfl)) : wpAnyLast P md ops Q S ds (fuel + 1) l a w :=
  pure_ l' hi hN (any_of hT.out hc) hQ hy ha h
theorem zu {P : Program} {md : Region.Mode} {ops : Array Oper} {Q : Exit → Act → World → Prop} {S : World → Prop} {ds : List Nat} {T : Bool × List (List Nat × List Nat)} {fuel : Nat} {l : Array Bool} {a : Act} {w : World} {oi : Oper} {a' : Act} (i : Nat) (N : Option Tmp) (l' : Array Bool) (hT : Aside0 (rtab md ops = T))
    (h : wpAnyLast P md ops Q S ds fuel l' a' w) (hc : anyT T l.toList l'.toList i = true := by kernel_rfl) (hi : ops[i]? = some oi := by rfl) (hN : oi.dst = N := by rfl) (hQ : ∀ c a w, Q (.panic c) (a.put oi.dst undef) w → Q (.panic c) a w := by exact fun _ _ _ h => h)
    (hy : Yields P ops oi undef a := by exact Or.inr ⟨by rfl, rfl⟩) (ha : a.put N undef = a' := by (simp only [Act.put, List.setIfInBounds_toArray, List.set_cons_zero, List.set_cons_succ, i64_w, i32_w]; rfl)) : wpAnyLast P md ops Q S ds (fuel + 1) l a w :=
  pure_ l' hi hN (any_of hT.out hc) hQ hy ha h
abbrev zm0 : Array Bool := #[false, false, false, false, false, false, false, false, false, false, false, false, false, false, false, false, false, false, false, false, false, false, false, false, false, false, false, false, false, false, false, false, false, false, false, false, false, false, false, false, false, false, false, false, false, false, false, false, false, false]
abbrev zm1 : Array Bool := #[true, false, false, false, false, false, false, false, false, false, false, false, false, false, false, false, false, false, false, false, false, false, false, false, false, false, false, false, false, false, false, false, false, false, false, false, false, false, false, false, false, false, false, false, false, false, false, false, false, false]
abbrev zm2 : Array Bool := #[true, true, false, false, false, false, false, false, false, false, false, false, false, false, false, false, false, false, false, false, false, false, false, false, false, false, false, false, false, false, false, false, false, false, false, false, false, false, false, false, false, false, false, false, false, false, false, false, false, false]
abbrev zm3 : Array Bool := #[true, true, true, false, false, false, false, false, false, false, false, false, false, false, false, false, false, false, false, false, false, false, false, false, false, false, false, false, false, false, false, false, false, false, false, false, false, false, false, false, false, false, false, false, false, false, false, false, false, false]
abbrev zm4 : Array Bool := #[true, true, true, true, false, false, false, false, false, false, false, false, false, false, false, false, false, false, false, false, false, false, false, false, false, false, false, false, false, false, false, false, false, false, false, false, false, false, false, false, false, false, false, false, false, false, false, false, false, false]
abbrev zm5 : Array Bool := #[true, true, true, true, true, false, false, false, false, false, false, false, false, false, false, false, false, false, false, false, false, false, false, false, false, false, false, false, false, false, false, false, false, false, false, false, false, false, false, false, false, false, false, false, false, false, false, false, false, false]
abbrev zm6 : Array Bool := #[true, true, true, true, true, true, false, false, false, false, false, false, false, false, false, false, false, false, false, false, false, false, false, false, false, false, false, false, false, false, false, false, false, false, false, false, false, false, false, false, false, false, false, false, false, false, false, false, false, false]
abbrev zm7 : Array Bool := #[true, true, true, true, true, true, false, true, false, false, false, false, false, false, false, false, false, false, false, false, false, false, false, false, false, false, false, false, false, false, false, false, false, false, false, false, false, false, false, false, false, false, false, false, false, false, false, false, false, false]
abbrev zm8 : Array Bool := #[true, true, true, true, true, true, true, true, false, false, false, false, false, false, false, false, false, false, false, false, false, false, false, false, false, false, false, false, false, false, false, false, false, false, false, false, false, false, false, false, false, false, false, false, false, false, false, false, false, false]
abbrev zm9 : Array Bool := #[true, true, true, true, true, true, true, true, true, false, false, false, false, false, false, false, false, false, false, false, false, false, false, false, false, false, false, false, false, false, false, false, false, false, false, false, false, false, false, false, false, false, false, false, false, false, false, false, false, false]
abbrev zm10 : Array Bool := #[true, true, true, true, true, true, true, true, true, true, false, false, false, false, false, false, false, false, false, false, false, false, false, false, false, false, false, false, false, false, false, false, false, false, false, false, false, false, false, false, false, false, false, false, false, false, false, false, false, false]
abbrev zm11 : Array Bool := #[true, true, true, true, true, true, true, true, true, true, true, false, false, false, false, false, false, false, false, false, false, false, false, false, false, false, false, false, false, false, false, false, false, false, false, false, false, false, false, false, false, false, false, false, false, false, false, false, false, false]
abbrev zm12 : Array Bool := #[true, true, true, true, true, true, true, true, true, true, true, true, false, false, false, false, false, false, false, false, false, false, false, false, false, false, false, false, false, false, false, false, false, false, false, false, false, false, false, false, false, false, false, false, false, false, false, false, false, false]
abbrev zm13 : Array Bool := #[true, true, true, true, true, true, true, true, true, true, true, true, true, false, false, false, false, false, false, false, false, false, false, false, false, false, false, false, false, false, false, false, false, false, false, false, false, false, false, false, false, false, false, false, false, false, false, false, false, false]
abbrev zm14 : Array Bool := #[true, true, true, true, true, true, true, true, true, true, true, true, true, true, false, false, false, false, false, false, false, false, false, false, false, false, false, false, false, false, false, false, false, false, false, false, false, false, false, false, false, false, false, false, false, false, false, false, false, false]
abbrev zm15 : Array Bool := #[true, true, true, true, true, true, true, true, true, true, true, true, true, true, true, false, false, false, false, false, false, false, false, false, false, false, false, false, false, false, false, false, false, false, false, false, false, false, false, false, false, false, false, false, false, false, false, false, false, false]
abbrev zm16 : Array Bool := #[true, true, true, true, true, true, true, true, true, true, true, true, true, true, true, true, false, false, false, false, false, false, false, false, false, false, false, false, false, false, false, false, false, false, false, false, false, false, false, false, false, false, false, false, false, false, false, false, false, false]
abbrev zm17 : Array Bool := #[true, true, true, true, true, true, true, true, true, true, true, true, true, true, true, true, true, false, false, false, false, false, false, false, false, false, false, false, false, false, false, false, false, false, false, false, false, false, false, false, false, false, false, false, false, false, false, false, false, false]
abbrev zm18 : Array Bool := #[true, true, true, true, true, true, true, true, true, true, true, true, true, true, true, true, true, true, false, false, false, false, false, false, false, false, false, false, false, false, false, false, false, false, false, false, false, false, false, false, false, false, false, false, false, false, false, false, false, false]
abbrev zm19 : Array Bool := #[true, true, true, true, true, true, true, true, true, true, true, true, true, true, true, true, true, true, false, true, false, false, false, false, false, false, false, false, false, false, false, false, false, false, false, false, false, false, false, false, false, false, false, false, false, false, false, false, false, false]
abbrev zm20 : Array Bool := #[true, true, true, true, true, true, true, true, true, true, true, true, true, true, true, true, true, true, false, true, true, false, false, false, false, false, false, false, false, false, false, false, false, false, false, false, false, false, false, false, false, false, false, false, false, false, false, false, false, false]
abbrev zm21 : Array Bool := #[true, true, true, true, true, true, true, true, true, true, true, true, true, true, true, true, true, true, false, true, true, false, false, false, true, false, false, false, false, false, false, false, false, false, false, false, false, false, false, false, false, false, false, false, false, false, false, false, false, false]
abbrev zm22 : Array Bool := #[true, true, true, true, true, true, true, true, true, true, true, true, true, true, true, true, true, true, true, true, true, false, false, false, true, false, false, false, false, false, false, false, false, false, false, false, false, false, false, false, false, false, false, false, false, false, false, false, false, false]
abbrev zm23 : Array Bool := #[true, true, true, true, true, true, true, true, true, true, true, true, true, true, true, true, true, true, true, true, true, true, false, false, true, false, false, false, false, false, false, false, false, false, false, false, false, false, false, false, false, false, false, false, false, false, false, false, false, false]
abbrev zm24 : Array Bool := #[true, true, true, true, true, true, true, true, true, true, true, true, true, true, true, true, true, true, true, true, true, true, true, false, true, false, false, false, false, false, false, false, false, false, false, false, false, false, false, false, false, false, false, false, false, false, false, false, false, false]
abbrev zm25 : Array Bool := #[true, true, true, true, true, true, true, true, true, true, true, true, true, true, true, true, true, true, true, true, true, true, true, true, true, false, false, false, false, false, false, false, false, false, false, false, false, false, false, false, false, false, false, false, false, false, false, false, false, false]
abbrev zm26 : Array Bool := #[true, true, true, true, true, true, true, true, true, true, true, true, true, true, true, true, true, true, true, true, true, true, true, true, true, true, false, false, false, false, false, false, false, false, false, false, false, false, false, false, false, false, false, false, false, false, false, false, false, false]
abbrev zm27 : Array Bool := #[true, true, true, true, true, true, true, true, true, true, true, true, true, true, true, true, true, true, true, true, true, true, true, true, true, true, true, false, false, false, false, false, false, false, false, false, false, false, false, false, false, false, false, false, false, false, false, false, false, false]
abbrev zm28 : Array Bool := #[true, true, true, true, true, true, true, true, true, true, true, true, true, true, true, true, true, true, true, true, true, true, true, true, true, true, true, true, false, false, false, false, false, false, false, false, false, false, false, false, false, false, false, false, false, false, false, false, false, false]
abbrev zm29 : Array Bool := #[true, true, true, true, true, true, true, true, true, true, true, true, true, true, true, true, true, true, true, true, true, true, true, true, true, true, true, true, true, false, false, false, false, false, false, false, false, false, false, false, false, false, false, false, false, false, false, false, false, false]
abbrev zm30 : Array Bool := #[true, true, true, true, true, true, true, true, true, true, true, true, true, true, true, true, true, true, true, true, true, true, true, true, true, true, true, true, true, true, false, false, false, false, false, false, false, false, false, false, false, false, false, false, false, false, false, false, false, false]
abbrev zm31 : Array Bool := #[true, true, true, true, true, true, true, true, true, true, true, true, true, true, true, true, true, true, true, true, true, true, true, true, true, true, true, true, true, true, true, false, false, false, false, false, false, false, false, false, false, false, false, false, false, false, false, false, false, false]
abbrev zm32 : Array Bool := #[true, true, true, true, true, true, true, true, true, true, true, true, true, true, true, true, true, true, true, true, true, true, true, true, true, true, true, true, true, true, true, true, false, false, false, false, false, false, false, false, false, false, false, false, false, false, false, false, false, false]
abbrev zm33 : Array Bool := #[true, true, true, true, true, true, true, true, true, true, true, true, true, true, true, true, true, true, true, true, true, true, true, true, true, true, true, true, true, true, true, true, true, false, false, false, false, false, false, false, false, false, false, false, false, false, false, false, false, false]
abbrev zm34 : Array Bool := #[true, true, true, true, true, true, true, true, true, true, true, true, true, true, true, true, true, true, true, true, true, true, true, true, true, true, true, true, true, true, true, true, true, true, false, false, false, false, false, false, false, false, false, false, false, false, false, false, false, false]
abbrev zm35 : Array Bool := #[true, true, true, true, true, true, true, true, true, true, true, true, true, true, true, true, true, true, true, true, true, true, true, true, true, true, true, true, true, true, true, true, true, true, true, false, false, false, false, false, false, false, false, false, false, false, false, false, false, false]
abbrev zm36 : Array Bool := #[true, true, true, true, true, true, true, true, true, true, true, true, true, true, true, true, true, true, true, true, true, true, true, true, true, true, true, true, true, true, true, true, true, true, true, true, false, false, false, false, false, false, false, false, false, false, false, false, false, false]
abbrev zm37 : Array Bool := #[true, true, true, true, true, true, true, true, true, true, true, true, true, true, true, true, true, true, true, true, true, true, true, true, true, true, true, true, true, true, true, true, true, true, true, true, true, false, false, false, false, false, false, false, false, false, false, false, false, false]
abbrev zm38 : Array Bool := #[true, true, true, true, true, true, true, true, true, true, true, true, true, true, true, true, true, true, true, true, true, true, true, true, true, true, true, true, true, true, true, true, true, true, true, true, true, true, false, false, false, false, false, false, false, false, false, false, false, false]
abbrev zm39 : Array Bool := #[true, true, true, true, true, true, true, true, true, true, true, true, true, true, true, true, true, true, true, true, true, true, true, true, true, true, true, true, true, true, true, true, true, true, true, true, true, true, true, false, false, false, false, false, false, false, false, false, false, false]
abbrev zm40 : Array Bool := #[true, true, true, true, true, true, true, true, true, true, true, true, true, true, true, true, true, true, true, true, true, true, true, true, true, true, true, true, true, true, true, true, true, true, true, true, true, true, true, true, false, false, false, false, false, false, false, false, false, false]
abbrev zm41 : Array Bool := #[true, true, true, true, true, true, true, true, true, true, true, true, true, true, true, true, true, true, true, true, true, true, true, true, true, true, true, true, true, true, true, true, true, true, true, true, true, true, true, true, true, false, false, false, false, false, false, false, false, false]
abbrev zm42 : Array Bool := #[true, true, true, true, true, true, true, true, true, true, true, true, true, true, true, true, true, true, true, true, true, true, true, true, true, true, true, true, true, true, true, true, true, true, true, true, true, true, true, true, true, true, false, false, false, false, false, false, false, false]
abbrev zm43 : Array Bool := #[true, true, true, true, true, true, true, true, true, true, true, true, true, true, true, true, true, true, true, true, true, true, true, true, true, true, true, true, true, true, true, true, true, true, true, true, true, true, true, true, true, true, true, false, false, false, false, false, false, false]
abbrev zm44 : Array Bool := #[true, true, true, true, true, true, true, true, true, true, true, true, true, true, true, true, true, true, true, true, true, true, true, true, true, true, true, true, true, true, true, true, true, true, true, true, true, true, true, true, true, true, true, true, false, false, false, false, false, false]
abbrev zm45 : Array Bool := #[true, true, true, true, true, true, true, true, true, true, true, true, true, true, true, true, true, true, true, true, true, true, true, true, true, true, true, true, true, true, true, true, true, true, true, true, true, true, true, true, true, true, true, true, true, false, false, false, false, false]
abbrev zm46 : Array Bool := #[true, true, true, true, true, true, true, true, true, true, true, true, true, true, true, true, true, true, true, true, true, true, true, true, true, true, true, true, true, true, true, true, true, true, true, true, true, true, true, true, true, true, true, true, true, true, false, false, false, false]
abbrev zm47 : Array Bool := #[true, true, true, true, true, true, true, true, true, true, true, true, true, true, true, true, true, true, true, true, true, true, true, true, true, true, true, true, true, true, true, true, true, true, true, true, true, true, true, true, true, true, true, true, true, true, true, false, false, false]
abbrev zm48 : Array Bool := #[true, true, true, true, true, true, true, true, true, true, true, true, true, true, true, true, true, true, true, true, true, true, true, true, true, true, true, true, true, true, true, true, true, true, true, true, true, true, true, true, true, true, true, true, true, true, true, true, false, false]
abbrev zm49 : Array Bool := #[true, true, true, true, true, true, true, true, true, true, true, true, true, true, true, true, true, true, true, true, true, true, true, true, true, true, true, true, true, true, true, true, true, true, true, true, true, true, true, true, true, true, true, true, true, true, true, true, true, false]
abbrev zm50 : Array Bool := #[true, true, true, true, true, true, true, true, true, true, true, true, true, true, true, true, true, true, true, true, true, true, true, true, true, true, true, true, true, true, true, true, true, true, true, true, true, true, true, true, true, true, true, true, true, true, true, true, true, true]
abbrev zm51 : Array Bool := #[true, true, true, true, true, true, true, true, true, true, true, true, true, true, true, true, true, true, true, true, true, true, true, true, true, true, true, true, true, true, true, true, true, true, true, true, true, true, true, true, true, true, true, false, false, true, false, false, false, false]
abbrev zm52 : Array Bool := #[true, true, true, true, true, true, true, true, true, true, true, true, true, true, true, true, true, true, true, true, true, true, true, true, true, true, true, true, true, true, true, true, true, true, true, true, true, true, true, true, true, true, true, true, false, true, false, false, false, false]
abbrev zm53 : Array Bool := #[true, true, true, true, true, true, true, true, true, true, true, true, true, true, true, true, true, true, true, false, false, false, false, false, false, false, false, false, false, false, false, false, false, false, false, false, false, false, false, false, false, false, false, false, false, false, false, false, false, false]
abbrev zm54 : Array Bool := #[true, true, true, true, true, true, true, true, true, true, true, true, true, true, true, true, true, true, true, true, false, false, false, false, false, false, false, false, false, false, false, false, false, false, false, false, false, false, false, false, false, false, false, false, false, false, false, false, false, false]
abbrev zm55 : Array Bool := #[true, true, true, true, true, true, true, true, true, true, true, true, true, true, true, true, true, true, true, true, true, false, false, false, false, false, false, false, false, false, false, false, false, false, false, false, false, false, false, false, false, false, false, false, false, false, false, false, false, false]
abbrev zm56 : Array Bool := #[true, true, true, true, true, true, true, true, true, true, true, true, true, true, true, true, true, true, true, true, true, true, false, false, false, false, false, false, false, false, false, false, false, false, false, false, false, false, false, false, false, false, false, false, false, false, false, false, false, false]
abbrev zm57 : Array Bool := #[true, true, true, true, true, true, true, true, true, true, true, true, true, true, true, true, true, true, true, true, true, true, true, false, false, false, false, false, false, false, false, false, false, false, false, false, false, false, false, false, false, false, false, false, false, false, false, false, false, false]
abbrev zm58 : Array Bool := #[true, true, true, true, true, true, true, true, true, true, true, true, true, true, true, true, true, true, true, true, true, true, true, true, false, false, false, false, false, false, false, false, false, false, false, false, false, false, false, false, false, false, false, false, false, false, false, false, false, false]
abbrev zm59 : Array Bool := #[true, true, true, true, true, true, true, false, false, false, false, false, false, false, false, false, false, false, false, false, false, false, false, false, false, false, false, false, false, false, false, false, false, false, false, false, false, false, false, false, false, false, false, false, false, false, false, false, false, false]
theorem bcq_5 {w : World} {g t : Nat} {cs : Array Value} {v : Value} (h : w.heap[g]? = some (.cells cs t (0, 0))) (j : Nat) (e : cs[j]? = some v := by rfl) : w.cell? ⟨g, j, none⟩ = some v := (blk_cell h j).trans e
theorem zb0_5 {P : Prop} (h : P := by repeat (first | (with_reducible first | exact HB.out | apply below_alloc | apply pw_below_drewN | apply below_drew1) | exact HB.out)) : P := h
theorem zb1_5 {P : Prop} (h : P := by (try simp only [List.map_toArray, List.map_cons, List.map_nil]); first | done | rfl | (simp only [List.length_drop, List.length_take]; rfl)) : P := h
theorem zb2_5 {P : Prop} (h : P := by first | rfl | (simp; done) | (simp [*]; done)) : P := h
theorem zb3_5 {P : Prop} (h : P := by first | (with_reducible assumption) | assumption) : P := h
theorem zb4_5 {P : Prop} (h : P := by (with_reducible repeat (first | refine blk_drewN ?_ _ | refine blk_drew ?_ | refine blk_alloc ?_ _)); exact BK162.out) : P := h
theorem zb5_5 {P : Prop} (h : P := by repeat (first | (with_reducible first | exact HB.out | apply below_alloc | apply pw_below_drewN | apply below_drew1 | refine below_set ?_ GE162.out) | exact HB.out)) : P := h
theorem zb6_5 {P : Prop} (h : P := by rw [hg]; exact (below_size (by repeat (first | (with_reducible first | exact HB.out | apply below_alloc | apply pw_below_drewN | apply below_drew1 | refine below_set ?_ GE162.out) | exact HB.out)))) : P := h
theorem zb7_5 {P : Prop} (h : P := by rw [hg]; exact Nat.ne_of_lt (blk_lt (g := gb162) (o := .cells #[.string a0_0, .int .i64 a0_1, .slice (some ad165) l0_2.length c0_2] 40 (0, 0)) (by (with_reducible repeat (first | refine blk_drewN ?_ _ | refine blk_drew ?_ | refine blk_alloc ?_ _)); exact BK162.out))) : P := h
theorem zb8_5 {P : Prop} (h : P := by rw [hg]; exact Nat.ne_of_gt (blk_lt (g := gb162) (o := .cells #[.string a0_0, .int .i64 a0_1, .slice (some ad165) l0_2.length c0_2] 40 (0, 0)) (by (with_reducible repeat (first | refine blk_drewN ?_ _ | refine blk_drew ?_ | refine blk_alloc ?_ _)); exact BK162.out))) : P := h
/-! ### spec_DialbackRight: function 16 -/
mutual
def spec_DialbackRight.j0 : Nat → Bool → ByteArray → Int → List (S71) → Option (Bool)
 | 0, _, _, _, _ => none
 | k + 1, x20, x163000, x163001, x163002 => if x20 = true then (some false) else (spec_DialbackRight.l0 k 0 x163000 x163001 x163002)
def spec_DialbackRight.l0 : Nat → Int → ByteArray → Int → List (S71) → Option (Bool)
 | 0, _, _, _, _ => none
 | k + 1, x3, x163000, x163001, x163002 => if x3 < (x163002.length : Int) then (if 0 ≤ x3 then ((spec_l05Domain.f k ((rd_T71 x163002 x3).f0)).bind fun t167 => (if t167 = true then ((spec_l03Is.f ((rd_T71 x163002 x3).f1) 1 (wrap64 (x163001 - 1))).bind fun t168 => (if t168 = true then (if x3 > 0 then (if 0 ≤ (wrap64 (x3 - 1)) then (if (wrap64 (x3 - 1)) < (x163002.length : Int) then (if ((rd_T71 x163002 (wrap64 (x3 - 1))).f1) ≥ ((rd_T71 x163002 x3).f1) then (some false) else ((spec_l03Is.f ((rd_T71 x163002 x3).f2) 0 3).bind fun t170 => (if t170 = true then (if (((rd_T71 x163002 x3).f3).size : Int) > 64 then (some false) else (if ((((rd_T71 x163002 x3).f3).toList == ([] : List UInt8)) != (((rd_T71 x163002 x3).f2) == 0)) = true then (some false) else (spec_DialbackRight.l0 k (wrap64 (x3 + 1)) x163000 x163001 x163002))) else (some false)))) else (none)) else (none)) else ((spec_l03Is.f ((rd_T71 x163002 x3).f2) 0 3).bind fun t171 => (if t171 = true then (if (((rd_T71 x163002 x3).f3).size : Int) > 64 then (some false) else (if ((((rd_T71 x163002 x3).f3).toList == ([] : List UInt8)) != (((rd_T71 x163002 x3).f2) == 0)) = true then (some false) else (spec_DialbackRight.l0 k (wrap64 (x3 + 1)) x163000 x163001 x163002))) else (some false)))) else (some false))) else (some false))) else (none)) else (some true)
end
def spec_DialbackRight.f (k : Nat) (a0_0 : ByteArray) (a0_1 : Int) (l0_2 : List (S71)) : Option (Bool) := (spec_l05Domain.f k a0_0).bind fun t163 => (if t163 = true then ((spec_l03Is.f a0_1 1 1000000000).bind fun t164 => (if t164 = true then (spec_DialbackRight.j0 k (decide ((l0_2.length : Int) > 10)) a0_0 a0_1 l0_2) else (spec_DialbackRight.j0 k true a0_0 a0_1 l0_2))) else (spec_DialbackRight.j0 k true a0_0 a0_1 l0_2))
theorem spec_DialbackRight.mono_l : ∀ k, (∀ y0 y1 y2 y3, LeO (spec_DialbackRight.j0 k y0 y1 y2 y3) (spec_DialbackRight.j0 (k + 1) y0 y1 y2 y3)) ∧ (∀ y0 y1 y2 y3, LeO (spec_DialbackRight.l0 k y0 y1 y2 y3) (spec_DialbackRight.l0 (k + 1) y0 y1 y2 y3))
 | 0 => ⟨fun _ _ _ _ r h => by simp [spec_DialbackRight.j0] at h, fun _ _ _ _ r h => by simp [spec_DialbackRight.l0] at h⟩
 | k + 1 => by
  obtain ⟨ih0, ih1⟩ := spec_DialbackRight.mono_l k
  refine ⟨?_, ?_⟩
  ·
   intro y0 y1 y2 y3
   unfold spec_DialbackRight.j0
   repeat' first
   | (with_reducible exact ih0 _ _ _ _)
   | (with_reducible exact ih1 _ _ _ _)
   | (with_reducible exact spec_l05Domain.mono _ _)
   | (with_reducible exact LeO.refl _)
   | (with_reducible exact LeO.none _)
   | (with_reducible refine LeO.ite ?_ ?_)
   | (with_reducible refine LeO.bind ?_ (fun _ => ?_))
   | exact ih0 _ _ _ _
   | exact ih1 _ _ _ _
   | exact spec_l05Domain.mono _ _
   | exact LeO.none _
   | refine LeO.ite ?_ ?_
   | refine LeO.bind ?_ (fun _ => ?_)
  ·
   intro y0 y1 y2 y3
   unfold spec_DialbackRight.l0
   repeat' first
   | (with_reducible exact ih0 _ _ _ _)
   | (with_reducible exact ih1 _ _ _ _)
   | (with_reducible exact spec_l05Domain.mono _ _)
   | (with_reducible exact LeO.refl _)
   | (with_reducible exact LeO.none _)
   | (with_reducible refine LeO.ite ?_ ?_)
   | (with_reducible refine LeO.bind ?_ (fun _ => ?_))
   | exact ih0 _ _ _ _
   | exact ih1 _ _ _ _
   | exact spec_l05Domain.mono _ _
   | exact LeO.none _
   | refine LeO.ite ?_ ?_
   | refine LeO.bind ?_ (fun _ => ?_)
theorem spec_DialbackRight.mono : ∀ a0 a1 a2 k, LeO (spec_DialbackRight.f k a0 a1 a2) (spec_DialbackRight.f (k + 1) a0 a1 a2) := by
 intro a0 a1 a2 k
 obtain ⟨ih0, ih1⟩ := spec_DialbackRight.mono_l k
 unfold spec_DialbackRight.f
 repeat' first
   | (with_reducible exact ih0 _ _ _ _)
   | (with_reducible exact ih1 _ _ _ _)
   | (with_reducible exact spec_l05Domain.mono _ _)
   | (with_reducible exact LeO.refl _)
   | (with_reducible exact LeO.none _)
   | (with_reducible refine LeO.ite ?_ ?_)
   | (with_reducible refine LeO.bind ?_ (fun _ => ?_))
   | exact ih0 _ _ _ _
   | exact ih1 _ _ _ _
   | exact spec_l05Domain.mono _ _
   | exact LeO.none _
   | refine LeO.ite ?_ ?_
   | refine LeO.bind ?_ (fun _ => ?_)
def spec_DialbackRight.T7 : Bool × List (List Nat × List Nat) := (true, [([], []), ([0], [0]), ([1], [1]), ([2], [2]), ([3, 2], [3]), ([4], [4]), ([5, 4], [4, 5]), ([4], [4]), ([7, 4], [4, 7]), ([8, 4], [4, 8]), ([6, 9, 4, 4], [4, 6, 9]), ([10, 4], [4, 10]), ([4, 11], [4, 11]), ([12, 10], [12]), ([13], [13]), ([14, 13], [13, 14]), ([15, 13, 13], [13, 15]), ([16], [16]), ([17, 16], [16, 17]), ([16], [16]), ([19, 16], [16, 19]), ([18, 20, 16], [16, 18, 20]), ([21, 16], [16, 21]), ([22, 16], [16, 22]), ([16], [16]), ([24, 16], [16, 24]), ([23, 25, 16], [16, 23, 25]), ([16, 26, 13], [13, 16, 26]), ([13, 27], [13, 27]), ([28, 16], [28]), ([29], [29]), ([30, 29], [29, 30]), ([31, 29, 29], [29, 31]), ([32, 29], [29, 32]), ([29, 33], [29, 33]), ([34, 32], [34]), ([35], [35]), ([36, 35], [35, 36]), ([37, 35], [35, 37]), ([38, 35], [35, 38]), ([35, 39], [35, 39]), ([40, 35], [40]), ([41], [41]), ([42, 41], [41, 42]), ([43, 41], [41, 43]), ([41], [41]), ([45, 41], [41, 45]), ([46, 41], [41, 46]), ([44, 47, 41], [41, 44, 47]), ([41, 48], [41, 48])])
def spec_DialbackRight.B7 : List Nat := [0, 1, 3, 7, 15, 31, 63, 31, 159, 415, 1023, 2047, 4095, 8191, 16383, 32767, 65535, 131071, 262143, 131071, 655359, 2097151, 4194303, 8388607, 131071, 16908287, 67108863, 134217727, 268435455, 536870911, 1073741823, 2147483647, 4294967295, 8589934591, 17179869183, 34359738367, 68719476735, 137438953471, 274877906943, 549755813887, 1099511627775, 2199023255551, 4398046511103, 8796093022207, 17592186044415, 4398046511103, 39582418599935, 109951162777599, 281474976710655, 562949953421311]
theorem spec_DialbackRight.tab7 : rtab .any (opsOf Tryd.f16 7) = spec_DialbackRight.T7 := by kernel_rfl
theorem spec_DialbackRight.bits7 : waitsOk spec_DialbackRight.T7.2 spec_DialbackRight.B7 = true := by kernel_rfl
set_option maxHeartbeats 8000000 in
set_option maxRecDepth 100000 in
theorem spec_DialbackRight.calls (k : Nat) (a0_0 : ByteArray) (a0_1 : Int) (A0_2 : Option Addr) (c0_2 : Nat) (l0_2 : List (S71)) (r : Bool) (w : World) (hr0_2 : Kd.C k71 w A0_2 l0_2.length l0_2) (hc0_2 : l0_2.length ≤ c0_2) (h : spec_DialbackRight.f k a0_0 a0_1 l0_2 = some r) :
  Calls Tryd.prog 16 #[.agg #[.string a0_0, .int .i64 a0_1, .slice A0_2 l0_2.length c0_2]] w fun e w' => e = .returned (.bool r) ∧ Below w.heap.size w w' := by
 have hu40 := Tryd.underlying40
 have hu71 := Tryd.underlying71
 have HR0_2 := Aside0.mk hr0_2
 have HC0_2 := Aside0.mk hc0_2
 clear hr0_2 hc0_2
 have HB := Aside0.mk (Below.refl w.heap.size w)
 have H : ((spec_l05Domain.f k a0_0).bind fun t163 => (if t163 = true then ((spec_l03Is.f a0_1 1 1000000000).bind fun t164 => (if t164 = true then (spec_DialbackRight.j0 k (decide ((l0_2.length : Int) > 10)) a0_0 a0_1 l0_2) else (spec_DialbackRight.j0 k true a0_0 a0_1 l0_2))) else (spec_DialbackRight.j0 k true a0_0 a0_1 l0_2))) = some r := h
 clear h
 have HC2 := Aside0.mk H
 clear H
 go_enter Tryd.func16, Tryd.ntmps16
 go_upto_region 1 with (first | ((with_reducible refine gate_dst (N := 1) rfl ?_); (try (refine gate_guard (by rfl) ?_; dsimp only)); refine box_event ?hg (N := 1) ?hd (cs := #[.string a0_0, .int .i64 a0_1, .slice A0_2 l0_2.length c0_2]) (t := 40) ?hr ?_; (case hd => rfl); (case hg => rfl); (case hr => first | (go_simp; done) | (go_simp; rfl)); intro gb162 hg w3 hbox hb; have n0_ := Aside0.mk (below_step zb0_5 hb); have n1_ := Aside0.mk (hbox); have n2_ := Aside0.mk ((by rw [hg]; exact (below_size zb0_5) : w.heap.size ≤ gb162)); have n3_ := Aside0.mk ((by rw [hg]; exact (below_size zb0_5) : w.heap.size ≤ gb162)); clear HB; have HB := n0_; have BK162 := n1_; have GW162 := n2_; have GE162 := n3_; clear n0_ n1_ n2_ n3_; clear hb hbox hg))
 (try simp only [Act.put, List.setIfInBounds_toArray, List.set_cons_zero, List.set_cons_succ])
 go_cut [20] (fun v20 wc => ∃ (kq : Nat) (x20_1 : Bool), v20 = .bool x20_1 ∧ Aside0 (spec_DialbackRight.j0 kq x20_1 a0_0 a0_1 l0_2 = some r) ∧ Aside0 (kq ≤ k) ∧ Aside0 (wc.heap[gb162]? = some (.cells #[.string a0_0, .int .i64 a0_1, (.slice A0_2 l0_2.length c0_2)] 40 (0, 0))) ∧ Aside0 (Below w.heap.size w wc))
 case first =>
  have H := HC2.out
  clear HC2
  replace H := Option.bind_eq_some_iff.mp H
  obtain ⟨t163, A40, H⟩ := H
  replace H : (if t163 = true then ((spec_l03Is.f a0_1 1 1000000000).bind fun t164 => (if t164 = true then (spec_DialbackRight.j0 k (decide ((l0_2.length : Int) > 10)) a0_0 a0_1 l0_2) else (spec_DialbackRight.j0 k true a0_0 a0_1 l0_2))) else (spec_DialbackRight.j0 k true a0_0 a0_1 l0_2)) = some r := H
  have A4 := Aside0.mk A40
  clear A40
  by_cases c5 : t163 = true
  ·
   subst c5
   have H1 : ((spec_l03Is.f a0_1 1 1000000000).bind fun t164 => (if t164 = true then (spec_DialbackRight.j0 k (decide ((l0_2.length : Int) > 10)) a0_0 a0_1 l0_2) else (spec_DialbackRight.j0 k true a0_0 a0_1 l0_2))) = some r := by rw [if_pos rfl] at H; exact H
   clear H
   have H := H1
   clear H1
   replace H := Option.bind_eq_some_iff.mp H
   obtain ⟨t164, A60, H⟩ := H
   replace H : (if t164 = true then (spec_DialbackRight.j0 k (decide ((l0_2.length : Int) > 10)) a0_0 a0_1 l0_2) else (spec_DialbackRight.j0 k true a0_0 a0_1 l0_2)) = some r := H
   have A6 := Aside0.mk A60
   clear A60
   by_cases c7 : t164 = true
   ·
    subst c7
    have H1 : (spec_DialbackRight.j0 k (decide ((l0_2.length : Int) > 10)) a0_0 a0_1 l0_2) = some r := by rw [if_pos rfl] at H; exact H
    clear H
    have H := H1
    clear H1
    have H' := Aside0.mk H
    clear H
    have hcz8_0 := bcq_5 BK162.out 0
    have hcz8_1 := bcq_5 BK162.out 1
    have hcz8_2 := bcq_5 BK162.out 2
    have hfz8_0 := blk_frozen BK162.out 0
    have hfz8_1 := blk_frozen BK162.out 1
    have hfz8_2 := blk_frozen BK162.out 2
    go_wp2_with (first | ((with_reducible refine gate_callee (f := 46) rfl ?_); refine goesL_ (some 7) rfl rfl Tryd.func46 (by kernel_rfl) rfl #[.string a0_0] rfl zb1_5 ?_; (with_reducible refine (spec_l05Domain.calls k a0_0 true _ A4.out).mono ?_); rintro e w' ⟨rfl, ⟨nd, rfl⟩⟩; refine ⟨_, rfl, ?_⟩) | (go_at_call 47; (with_reducible refine (spec_l03Is.calls a0_1 1 1000000000 true _ A6.out).mono ?_); rintro e w' ⟨rfl, ⟨nd, rfl⟩⟩))
    go_meet
    case rel => exact ⟨_, (decide ((l0_2.length : Int) > 10)), zb2_5, H', ⟨by first | omega | exact Nat.le_refl _⟩, ⟨by (with_reducible repeat (first | refine blk_drewN ?_ _ | refine blk_drew ?_ | refine blk_alloc ?_ _)); exact BK162.out⟩, ⟨by repeat (first | (with_reducible first | exact HB.out | apply below_alloc | apply pw_below_drewN | apply below_drew1 | refine below_set ?_ GE162.out) | exact HB.out)⟩⟩
   ·
    replace c7 := Bool.eq_false_iff.mpr c7
    subst c7
    have H1 : (spec_DialbackRight.j0 k true a0_0 a0_1 l0_2) = some r := by rw [if_neg (show ¬ (false = true) by decide)] at H; exact H
    clear H
    have H := H1
    clear H1
    have H' := Aside0.mk H
    clear H
    have hcz9_0 := bcq_5 BK162.out 0
    have hcz9_1 := bcq_5 BK162.out 1
    have hcz9_2 := bcq_5 BK162.out 2
    have hfz9_0 := blk_frozen BK162.out 0
    have hfz9_1 := blk_frozen BK162.out 1
    have hfz9_2 := blk_frozen BK162.out 2
    go_wp2_with (first | ((with_reducible refine gate_callee (f := 46) rfl ?_); refine goesL_ (some 7) rfl rfl Tryd.func46 (by kernel_rfl) rfl #[.string a0_0] rfl zb1_5 ?_; (with_reducible refine (spec_l05Domain.calls k a0_0 true _ A4.out).mono ?_); rintro e w' ⟨rfl, ⟨nd, rfl⟩⟩; refine ⟨_, rfl, ?_⟩) | (go_at_call 47; (with_reducible refine (spec_l03Is.calls a0_1 1 1000000000 false _ A6.out).mono ?_); rintro e w' ⟨rfl, ⟨nd, rfl⟩⟩))
    go_meet
    case rel => exact ⟨_, (true), zb2_5, H', ⟨by first | omega | exact Nat.le_refl _⟩, ⟨by (with_reducible repeat (first | refine blk_drewN ?_ _ | refine blk_drew ?_ | refine blk_alloc ?_ _)); exact BK162.out⟩, ⟨by repeat (first | (with_reducible first | exact HB.out | apply below_alloc | apply pw_below_drewN | apply below_drew1 | refine below_set ?_ GE162.out) | exact HB.out)⟩⟩
  ·
   replace c5 := Bool.eq_false_iff.mpr c5
   subst c5
   have H1 : (spec_DialbackRight.j0 k true a0_0 a0_1 l0_2) = some r := by rw [if_neg (show ¬ (false = true) by decide)] at H; exact H
   clear H
   have H := H1
   clear H1
   have H' := Aside0.mk H
   clear H
   have hcz10_0 := bcq_5 BK162.out 0
   have hcz10_1 := bcq_5 BK162.out 1
   have hcz10_2 := bcq_5 BK162.out 2
   have hfz10_0 := blk_frozen BK162.out 0
   have hfz10_1 := blk_frozen BK162.out 1
   have hfz10_2 := blk_frozen BK162.out 2
   go_wp2_with (first | ((with_reducible refine gate_callee (f := 46) rfl ?_); refine goesL_ (some 7) rfl rfl Tryd.func46 (by kernel_rfl) rfl #[.string a0_0] rfl zb1_5 ?_; (with_reducible refine (spec_l05Domain.calls k a0_0 false _ A4.out).mono ?_); rintro e w' ⟨rfl, ⟨nd, rfl⟩⟩; refine ⟨_, rfl, ?_⟩))
   go_meet
   case rel => exact ⟨_, (true), zb2_5, H', ⟨by first | omega | exact Nat.le_refl _⟩, ⟨by (with_reducible repeat (first | refine blk_drewN ?_ _ | refine blk_drew ?_ | refine blk_alloc ?_ _)); exact BK162.out⟩, ⟨by repeat (first | (with_reducible first | exact HB.out | apply below_alloc | apply pw_below_drewN | apply below_drew1 | refine below_set ?_ GE162.out) | exact HB.out)⟩⟩
 case rest =>
  clear HC2
  try clear c1
  try clear p2
  try clear c4
  try clear c5
  try clear c7
  try clear hcz10_0
  try clear hcz10_1
  try clear hcz10_2
  try clear hcz8_0
  try clear hcz8_1
  try clear hcz8_2
  try clear hcz9_0
  try clear hcz9_1
  try clear hcz9_2
  try clear hfz10_0
  try clear hfz10_1
  try clear hfz10_2
  try clear hfz8_0
  try clear hfz8_1
  try clear hfz8_2
  try clear hfz9_0
  try clear hfz9_1
  try clear hfz9_2
  obtain ⟨kq, x20_1, rfl, HA, HJ1, BK162, HB⟩ := hcut
  cases kq with
  | zero => exact absurd HA.out (by simp [spec_DialbackRight.j0])
  | succ kj1 =>
   have H := HA.out
   clear HA
   simp only [spec_DialbackRight.j0] at H
   by_cases c11 : x20_1 = true
   ·
    subst c11
    have H1 : (some false) = some r := by rw [if_pos rfl] at H; exact H
    clear H
    have H := H1
    clear H1
    obtain rfl := Option.some.inj H
    go_wp2
    go_ret
    exact ⟨by first | rfl | (simp [errW_none, errW_some] <;> rfl) | (simp [*, errW_none, errW_some] <;> rfl), by repeat (first | (with_reducible first | exact HB.out | apply below_alloc | apply pw_below_drewN | apply below_drew1 | refine below_set ?_ GE162.out) | exact HB.out)⟩
   ·
    replace c11 := Bool.eq_false_iff.mpr c11
    subst c11
    have H1 : (spec_DialbackRight.l0 kj1 0 a0_0 a0_1 l0_2) = some r := by rw [if_neg (show ¬ (false = true) by decide)] at H; exact H
    clear H
    have H := H1
    clear H1
    have H' := Aside0.mk H
    clear H
    go_wp2
    go_loopg [3] kj1 (fun kq v3 w' => ∃ (x3_2 : Int), v3 = .int .i64 x3_2 ∧ Aside0 (spec_DialbackRight.l0 kq x3_2 a0_0 a0_1 l0_2 = some r) ∧ Aside0 (kq ≤ kj1) ∧ Aside0 (w'.heap[gb162]? = some (.cells #[.string a0_0, .int .i64 a0_1, (.slice A0_2 l0_2.length c0_2)] 40 (0, 0))) ∧ Aside0 (Below w.heap.size w w'))
    case atStart => exact ⟨(0), zb2_5, H', ⟨Nat.le_refl _⟩, ⟨by (with_reducible repeat (first | refine blk_drewN ?_ _ | refine blk_drew ?_ | refine blk_alloc ?_ _)); exact BK162.out⟩, ⟨by repeat (first | (with_reducible first | exact HB.out | apply below_alloc | apply pw_below_drewN | apply below_drew1 | refine below_set ?_ GE162.out) | exact HB.out)⟩⟩
    case round =>
     clear H'
     try clear c1
     try clear p2
     try clear c4
     try clear c5
     try clear c7
     try clear c11
     try clear hcz10_0
     try clear hcz10_1
     try clear hcz10_2
     try clear hcz8_0
     try clear hcz8_1
     try clear hcz8_2
     try clear hcz9_0
     try clear hcz9_1
     try clear hcz9_2
     try clear hfz10_0
     try clear hfz10_1
     try clear hfz10_2
     try clear hfz8_0
     try clear hfz8_1
     try clear hfz8_2
     try clear hfz9_0
     try clear hfz9_1
     try clear hfz9_2
     try clear p2
     obtain ⟨x3_2, rfl, HA, HK2, BK162, HB⟩ := hrel
     cases gk with
     | zero => exact absurd HA.out (by simp [spec_DialbackRight.l0])
     | succ k2 =>
      have H := HA.out
      clear HA
      simp only [spec_DialbackRight.l0] at H
      by_cases c12 : x3_2 < (l0_2.length : Int)
      ·
       rw [if_pos c12] at H
       have c12b0 : decide (x3_2 < (l0_2.length : Int)) = true := decide_eq_true c12
       clear c12
       by_cases c13 : 0 ≤ x3_2
       ·
        rw [if_pos c13] at H
        have c13b0 : decide (0 ≤ x3_2) = true := decide_eq_true c13
        clear c13
        replace H := Option.bind_eq_some_iff.mp H
        obtain ⟨t167, A140, H⟩ := H
        replace H : (if t167 = true then ((spec_l03Is.f ((rd_T71 l0_2 x3_2).f1) 1 (wrap64 (a0_1 - 1))).bind fun t168 => (if t168 = true then (if x3_2 > 0 then (if 0 ≤ (wrap64 (x3_2 - 1)) then (if (wrap64 (x3_2 - 1)) < (l0_2.length : Int) then (if ((rd_T71 l0_2 (wrap64 (x3_2 - 1))).f1) ≥ ((rd_T71 l0_2 x3_2).f1) then (some false) else ((spec_l03Is.f ((rd_T71 l0_2 x3_2).f2) 0 3).bind fun t170 => (if t170 = true then (if (((rd_T71 l0_2 x3_2).f3).size : Int) > 64 then (some false) else (if ((((rd_T71 l0_2 x3_2).f3).toList == ([] : List UInt8)) != (((rd_T71 l0_2 x3_2).f2) == 0)) = true then (some false) else (spec_DialbackRight.l0 k2 (wrap64 (x3_2 + 1)) a0_0 a0_1 l0_2))) else (some false)))) else (none)) else (none)) else ((spec_l03Is.f ((rd_T71 l0_2 x3_2).f2) 0 3).bind fun t171 => (if t171 = true then (if (((rd_T71 l0_2 x3_2).f3).size : Int) > 64 then (some false) else (if ((((rd_T71 l0_2 x3_2).f3).toList == ([] : List UInt8)) != (((rd_T71 l0_2 x3_2).f2) == 0)) = true then (some false) else (spec_DialbackRight.l0 k2 (wrap64 (x3_2 + 1)) a0_0 a0_1 l0_2))) else (some false)))) else (some false))) else (some false)) = some r := H
        have A14 := Aside0.mk A140
        clear A140
        by_cases c15 : t167 = true
        ·
         subst c15
         have H1 : ((spec_l03Is.f ((rd_T71 l0_2 x3_2).f1) 1 (wrap64 (a0_1 - 1))).bind fun t168 => (if t168 = true then (if x3_2 > 0 then (if 0 ≤ (wrap64 (x3_2 - 1)) then (if (wrap64 (x3_2 - 1)) < (l0_2.length : Int) then (if ((rd_T71 l0_2 (wrap64 (x3_2 - 1))).f1) ≥ ((rd_T71 l0_2 x3_2).f1) then (some false) else ((spec_l03Is.f ((rd_T71 l0_2 x3_2).f2) 0 3).bind fun t170 => (if t170 = true then (if (((rd_T71 l0_2 x3_2).f3).size : Int) > 64 then (some false) else (if ((((rd_T71 l0_2 x3_2).f3).toList == ([] : List UInt8)) != (((rd_T71 l0_2 x3_2).f2) == 0)) = true then (some false) else (spec_DialbackRight.l0 k2 (wrap64 (x3_2 + 1)) a0_0 a0_1 l0_2))) else (some false)))) else (none)) else (none)) else ((spec_l03Is.f ((rd_T71 l0_2 x3_2).f2) 0 3).bind fun t171 => (if t171 = true then (if (((rd_T71 l0_2 x3_2).f3).size : Int) > 64 then (some false) else (if ((((rd_T71 l0_2 x3_2).f3).toList == ([] : List UInt8)) != (((rd_T71 l0_2 x3_2).f2) == 0)) = true then (some false) else (spec_DialbackRight.l0 k2 (wrap64 (x3_2 + 1)) a0_0 a0_1 l0_2))) else (some false)))) else (some false))) = some r := by rw [if_pos rfl] at H; exact H
         clear H
         have H := H1
         clear H1
         replace H := Option.bind_eq_some_iff.mp H
         obtain ⟨t168, A160, H⟩ := H
         replace H : (if t168 = true then (if x3_2 > 0 then (if 0 ≤ (wrap64 (x3_2 - 1)) then (if (wrap64 (x3_2 - 1)) < (l0_2.length : Int) then (if ((rd_T71 l0_2 (wrap64 (x3_2 - 1))).f1) ≥ ((rd_T71 l0_2 x3_2).f1) then (some false) else ((spec_l03Is.f ((rd_T71 l0_2 x3_2).f2) 0 3).bind fun t170 => (if t170 = true then (if (((rd_T71 l0_2 x3_2).f3).size : Int) > 64 then (some false) else (if ((((rd_T71 l0_2 x3_2).f3).toList == ([] : List UInt8)) != (((rd_T71 l0_2 x3_2).f2) == 0)) = true then (some false) else (spec_DialbackRight.l0 k2 (wrap64 (x3_2 + 1)) a0_0 a0_1 l0_2))) else (some false)))) else (none)) else (none)) else ((spec_l03Is.f ((rd_T71 l0_2 x3_2).f2) 0 3).bind fun t171 => (if t171 = true then (if (((rd_T71 l0_2 x3_2).f3).size : Int) > 64 then (some false) else (if ((((rd_T71 l0_2 x3_2).f3).toList == ([] : List UInt8)) != (((rd_T71 l0_2 x3_2).f2) == 0)) = true then (some false) else (spec_DialbackRight.l0 k2 (wrap64 (x3_2 + 1)) a0_0 a0_1 l0_2))) else (some false)))) else (some false)) = some r := H
         have A16 := Aside0.mk A160
         clear A160
         by_cases c17 : t168 = true
         ·
          subst c17
          have H1 : (if x3_2 > 0 then (if 0 ≤ (wrap64 (x3_2 - 1)) then (if (wrap64 (x3_2 - 1)) < (l0_2.length : Int) then (if ((rd_T71 l0_2 (wrap64 (x3_2 - 1))).f1) ≥ ((rd_T71 l0_2 x3_2).f1) then (some false) else ((spec_l03Is.f ((rd_T71 l0_2 x3_2).f2) 0 3).bind fun t170 => (if t170 = true then (if (((rd_T71 l0_2 x3_2).f3).size : Int) > 64 then (some false) else (if ((((rd_T71 l0_2 x3_2).f3).toList == ([] : List UInt8)) != (((rd_T71 l0_2 x3_2).f2) == 0)) = true then (some false) else (spec_DialbackRight.l0 k2 (wrap64 (x3_2 + 1)) a0_0 a0_1 l0_2))) else (some false)))) else (none)) else (none)) else ((spec_l03Is.f ((rd_T71 l0_2 x3_2).f2) 0 3).bind fun t171 => (if t171 = true then (if (((rd_T71 l0_2 x3_2).f3).size : Int) > 64 then (some false) else (if ((((rd_T71 l0_2 x3_2).f3).toList == ([] : List UInt8)) != (((rd_T71 l0_2 x3_2).f2) == 0)) = true then (some false) else (spec_DialbackRight.l0 k2 (wrap64 (x3_2 + 1)) a0_0 a0_1 l0_2))) else (some false)))) = some r := by rw [if_pos rfl] at H; exact H
          clear H
          have H := H1
          clear H1
          by_cases c18 : x3_2 > 0
          ·
           rw [if_pos c18] at H
           have c18b0 : decide (0 < x3_2) = true := decide_eq_true c18
           clear c18
           obtain ⟨ji19, hji19⟩ : ∃ j_ : Int, (wrap64 (x3_2 - 1)) = j_ := ⟨_, rfl⟩
           replace H : (if 0 ≤ (ji19) then (if (ji19) < (l0_2.length : Int) then (if ((rd_T71 l0_2 (ji19)).f1) ≥ ((rd_T71 l0_2 x3_2).f1) then (some false) else ((spec_l03Is.f ((rd_T71 l0_2 x3_2).f2) 0 3).bind fun t170 => (if t170 = true then (if (((rd_T71 l0_2 x3_2).f3).size : Int) > 64 then (some false) else (if ((((rd_T71 l0_2 x3_2).f3).toList == ([] : List UInt8)) != (((rd_T71 l0_2 x3_2).f2) == 0)) = true then (some false) else (spec_DialbackRight.l0 k2 (wrap64 (x3_2 + 1)) a0_0 a0_1 l0_2))) else (some false)))) else (none)) else (none)) = some r := by first | (rw [hji19] at H; exact H) | (simp only [hji19] at H ⊢; exact H)
           (try rw [hji19] at A14)
           (try rw [hji19] at A16)
           have hji19w : (IntKind.i64.wrap (x3_2 - 1)) = ji19 := (i64_w _).trans hji19
           by_cases c20 : 0 ≤ (ji19)
           ·
            rw [if_pos c20] at H
            have c20b0 : decide (0 ≤ (ji19)) = true := decide_eq_true c20
            clear c20
            by_cases c21 : (ji19) < (l0_2.length : Int)
            ·
             rw [if_pos c21] at H
             have c21b0 : decide ((ji19) < (l0_2.length : Int)) = true := decide_eq_true c21
             clear c21
             by_cases c22 : ((rd_T71 l0_2 (ji19)).f1) ≥ ((rd_T71 l0_2 x3_2).f1)
             ·
              rw [if_pos c22] at H
              have c22b0 : decide (((rd_T71 l0_2 x3_2).f1) ≤ ((rd_T71 l0_2 (ji19)).f1)) = true := decide_eq_true c22
              clear c22
              obtain rfl := Option.some.inj H
              have hcz23_0 := bcq_5 BK162.out 0
              have hcz23_1 := bcq_5 BK162.out 1
              have hcz23_2 := bcq_5 BK162.out 2
              have hfz23_0 := blk_frozen BK162.out 0
              have hfz23_1 := blk_frozen BK162.out 1
              have hfz23_2 := blk_frozen BK162.out 2
              have p165 : 0 ≤ (x3_2 : Int) := of_decide_eq_true zb3_5
              have q165 : x3_2 < (l0_2.length : Int) := of_decide_eq_true zb3_5
              obtain ⟨ad165, e165, hx165_0, hx165_1, hx165_2, hx165_3⟩ := at_T71 HR0_2.out x3_2 p165 q165
              cases e165
              replace hx165_0 := (HB.out.cell (World.block_lt_of_cell? w _ hx165_0)).trans hx165_0
              replace hx165_1 := (HB.out.cell (World.block_lt_of_cell? w _ hx165_1)).trans hx165_1
              replace hx165_2 := (HB.out.cell (World.block_lt_of_cell? w _ hx165_2)).trans hx165_2
              replace hx165_3 := (HB.out.cell (World.block_lt_of_cell? w _ hx165_3)).trans hx165_3
              replace p165 := eq_true p165
              replace q165 := eq_true q165
              try go_wp2_with (first | ((with_reducible refine gate_dst (N := 4) rfl ?_); (try (refine gate_guard (by rfl) ?_; dsimp only)); refine box_event ?hg (N := 4) ?hd (cs := #[.string (⟨#[]⟩ : ByteArray), .int .i64 0, .int .i64 0, .string (⟨#[]⟩ : ByteArray)]) (t := 71) ?hr ?_; (case hd => rfl); (case hg => rfl); (case hr => first | (go_simp; done) | (go_simp; rfl)); intro gb166 hg w24 hbox hb; have n0_ := Aside0.mk (blk_below (g := gb162) (o := .cells #[.string a0_0, .int .i64 a0_1, .slice (some ad165) l0_2.length c0_2] 40 (0, 0)) zb4_5 hb); have n1_ := Aside0.mk (below_step zb5_5 hb); have n2_ := Aside0.mk (hbox); have n3_ := Aside0.mk ((zb6_5 : w.heap.size ≤ gb166)); have n4_ := Aside0.mk ((zb6_5 : w.heap.size ≤ gb166)); have n5_ := Aside0.mk ((zb7_5 : gb162 ≠ gb166)); have n6_ := Aside0.mk ((zb8_5 : gb166 ≠ gb162)); clear BK162; clear HB; have BK162 := n0_; have HB := n1_; have BK166 := n2_; have GW166 := n3_; have GE166 := n4_; have NB162_166 := n5_; have NB166_162 := n6_; clear n0_ n1_ n2_ n3_ n4_ n5_ n6_; clear hb hbox hg; have hnb25 := NB166_162.out; have hnc25 := NB162_166.out; have hcz26_0 := bcq_5 BK166.out 0; have hcz26_1 := bcq_5 BK166.out 1; have hcz26_2 := bcq_5 BK166.out 2; have hcz26_3 := bcq_5 BK166.out 3; have hfz26_0 := blk_frozen BK166.out 0; have hfz26_1 := blk_frozen BK166.out 1; have hfz26_2 := blk_frozen BK166.out 2; have hfz26_3 := blk_frozen BK166.out 3))
              have n0_ : Aside0 (((((w24.setCell ⟨gb166, 0, none⟩ (.string ((rd_T71 l0_2 x3_2).f0))).setCell ⟨gb166, 1, none⟩ (.int .i64 ((rd_T71 l0_2 x3_2).f1))).setCell ⟨gb166, 2, none⟩ (.int .i64 ((rd_T71 l0_2 x3_2).f2))).setCell ⟨gb166, 3, none⟩ (.string ((rd_T71 l0_2 x3_2).f3))).heap[gb162]? = some (.cells #[.string a0_0, .int .i64 a0_1, .slice (some ad165) l0_2.length c0_2] 40 (0, 0))) := ⟨by (with_reducible repeat (first | refine blk_drewN ?_ _ | refine blk_drew ?_ | refine blk_alloc ?_ _)); refine blk_far ?_ NB162_166.out _; (with_reducible repeat (first | refine blk_drewN ?_ _ | refine blk_drew ?_ | refine blk_alloc ?_ _)); refine blk_far ?_ NB162_166.out _; (with_reducible repeat (first | refine blk_drewN ?_ _ | refine blk_drew ?_ | refine blk_alloc ?_ _)); refine blk_far ?_ NB162_166.out _; (with_reducible repeat (first | refine blk_drewN ?_ _ | refine blk_drew ?_ | refine blk_alloc ?_ _)); refine blk_far ?_ NB162_166.out _; (with_reducible repeat (first | refine blk_drewN ?_ _ | refine blk_drew ?_ | refine blk_alloc ?_ _)); exact BK162.out⟩
              have n1_ : Aside0 (((((w24.setCell ⟨gb166, 0, none⟩ (.string ((rd_T71 l0_2 x3_2).f0))).setCell ⟨gb166, 1, none⟩ (.int .i64 ((rd_T71 l0_2 x3_2).f1))).setCell ⟨gb166, 2, none⟩ (.int .i64 ((rd_T71 l0_2 x3_2).f2))).setCell ⟨gb166, 3, none⟩ (.string ((rd_T71 l0_2 x3_2).f3))).heap[gb166]? = some (.cells #[.string ((rd_T71 l0_2 x3_2).f0), .int .i64 ((rd_T71 l0_2 x3_2).f1), .int .i64 ((rd_T71 l0_2 x3_2).f2), .string ((rd_T71 l0_2 x3_2).f3)] 71 (0, 0))) := ⟨by (with_reducible repeat (first | refine blk_drewN ?_ _ | refine blk_drew ?_ | refine blk_alloc ?_ _)); refine blk_put (cs := #[.string ((rd_T71 l0_2 x3_2).f0), .int .i64 ((rd_T71 l0_2 x3_2).f1), .int .i64 ((rd_T71 l0_2 x3_2).f2), .string (⟨#[]⟩ : ByteArray)]) ?_ 3 _ rfl; (with_reducible repeat (first | refine blk_drewN ?_ _ | refine blk_drew ?_ | refine blk_alloc ?_ _)); refine blk_put (cs := #[.string ((rd_T71 l0_2 x3_2).f0), .int .i64 ((rd_T71 l0_2 x3_2).f1), .int .i64 0, .string (⟨#[]⟩ : ByteArray)]) ?_ 2 _ rfl; (with_reducible repeat (first | refine blk_drewN ?_ _ | refine blk_drew ?_ | refine blk_alloc ?_ _)); refine blk_put (cs := #[.string ((rd_T71 l0_2 x3_2).f0), .int .i64 0, .int .i64 0, .string (⟨#[]⟩ : ByteArray)]) ?_ 1 _ rfl; (with_reducible repeat (first | refine blk_drewN ?_ _ | refine blk_drew ?_ | refine blk_alloc ?_ _)); refine blk_put (cs := #[.string (⟨#[]⟩ : ByteArray), .int .i64 0, .int .i64 0, .string (⟨#[]⟩ : ByteArray)]) ?_ 0 _ rfl; (with_reducible repeat (first | refine blk_drewN ?_ _ | refine blk_drew ?_ | refine blk_alloc ?_ _)); exact BK166.out⟩
              have n2_ : Aside0 (Below w.heap.size w ((((w24.setCell ⟨gb166, 0, none⟩ (.string ((rd_T71 l0_2 x3_2).f0))).setCell ⟨gb166, 1, none⟩ (.int .i64 ((rd_T71 l0_2 x3_2).f1))).setCell ⟨gb166, 2, none⟩ (.int .i64 ((rd_T71 l0_2 x3_2).f2))).setCell ⟨gb166, 3, none⟩ (.string ((rd_T71 l0_2 x3_2).f3)))) := ⟨by repeat (first | (with_reducible first | exact HB.out | apply below_alloc | apply pw_below_drewN | apply below_drew1 | refine below_set ?_ GE162.out | refine below_set ?_ GE166.out) | exact HB.out)⟩
              (try clear BK162)
              (try clear BK166)
              (try clear HB)
              generalize ((((w24.setCell ⟨gb166, 0, none⟩ (.string ((rd_T71 l0_2 x3_2).f0))).setCell ⟨gb166, 1, none⟩ (.int .i64 ((rd_T71 l0_2 x3_2).f1))).setCell ⟨gb166, 2, none⟩ (.int .i64 ((rd_T71 l0_2 x3_2).f2))).setCell ⟨gb166, 3, none⟩ (.string ((rd_T71 l0_2 x3_2).f3))) = w27 at n0_ n1_ n2_ ⊢
              have BK162 := n0_
              have BK166 := n1_
              have HB := n2_
              clear n0_ n1_ n2_
              have n0_ := Aside0.mk (blk_drew BK162.out)
              have n1_ := Aside0.mk (blk_drew BK166.out)
              have n2_ := Aside0.mk (below_drew1 HB.out)
              clear BK162
              clear BK166
              clear HB
              have BK162 := n0_
              have BK166 := n1_
              have HB := n2_
              clear n0_ n1_ n2_
              have p169 : 0 ≤ ((ji19) : Int) := of_decide_eq_true zb3_5
              have q169 : (ji19) < (l0_2.length : Int) := of_decide_eq_true zb3_5
              obtain ⟨ad169, e169, hx169_0, hx169_1, hx169_2, hx169_3⟩ := at_T71 HR0_2.out (ji19) p169 q169
              have hw169_3 := hx169_3
              have hw169_2 := hx169_2
              have hw169_1 := hx169_1
              have hw169_0 := hx169_0
              obtain rfl : ad165 = ad169 := (by injection e169)
              replace hx169_0 := (HB.out.cell (World.block_lt_of_cell? w _ hx169_0)).trans hx169_0
              replace hx169_1 := (HB.out.cell (World.block_lt_of_cell? w _ hx169_1)).trans hx169_1
              replace hx169_2 := (HB.out.cell (World.block_lt_of_cell? w _ hx169_2)).trans hx169_2
              replace hx169_3 := (HB.out.cell (World.block_lt_of_cell? w _ hx169_3)).trans hx169_3
              replace p169 := eq_true p169
              replace q169 := eq_true q169
              refine start_ (n := 50) (S := fun w' => w'.cell? ⟨gb166, 0, none⟩ = some (.string ((rd_T71 l0_2 x3_2).f0)) ∧ w'.cell? ⟨gb166, 1, none⟩ = some (.int .i64 ((rd_T71 l0_2 x3_2).f1)) ∧ w'.cell? ⟨gb166, 2, none⟩ = some (.int .i64 ((rd_T71 l0_2 x3_2).f2)) ∧ w'.cell? ⟨gb166, 3, none⟩ = some (.string ((rd_T71 l0_2 x3_2).f3)) ∧ w'.cell? ⟨gb162, 0, none⟩ = some (.string a0_0) ∧ w'.cell? ⟨gb162, 1, none⟩ = some (.int .i64 a0_1) ∧ w'.cell? ⟨gb162, 2, none⟩ = some (.slice (some ad165) l0_2.length c0_2) ∧ w'.cell? (ad165.add (((ji19)).toNat * 4)) = some (.string ((rd_T71 l0_2 (ji19)).f0)) ∧ w'.cell? ⟨(ad165.add (((ji19)).toNat * 4)).block, (ad165.add (((ji19)).toNat * 4)).off + 1, none⟩ = some (.int .i64 ((rd_T71 l0_2 (ji19)).f1)) ∧ w'.cell? ⟨(ad165.add (((ji19)).toNat * 4)).block, (ad165.add (((ji19)).toNat * 4)).off + 2, none⟩ = some (.int .i64 ((rd_T71 l0_2 (ji19)).f2)) ∧ w'.cell? ⟨(ad165.add (((ji19)).toNat * 4)).block, (ad165.add (((ji19)).toNat * 4)).off + 3, none⟩ = some (.string ((rd_T71 l0_2 (ji19)).f3))) (ds := []) zm0 (by kernel_rfl) rfl rfl ⟨(blk_cell BK166.out 0).trans rfl, (blk_cell BK166.out 1).trans rfl, (blk_cell BK166.out 2).trans rfl, (blk_cell BK166.out 3).trans rfl, (blk_cell BK162.out 0).trans rfl, (blk_cell BK162.out 1).trans rfl, (blk_cell BK162.out 2).trans rfl, ((HB.out.cell (World.block_lt_of_cell? w _ hw169_0)).trans hw169_0), ((HB.out.cell (World.block_lt_of_cell? w _ hw169_1)).trans hw169_1), ((HB.out.cell (World.block_lt_of_cell? w _ hw169_2)).trans hw169_2), ((HB.out.cell (World.block_lt_of_cell? w _ hw169_3)).trans hw169_3)⟩ (fun hHeld => ?_); refine with_tabW spec_DialbackRight.tab7 spec_DialbackRight.bits7 (fun HT_ HW_ => ?_)
              generalize w27.drew = w28 at BK162 BK166 HB hx169_0 hx169_1 hx169_2 hx169_3 hHeld ⊢
              refine zp 0 (some 33) zm1 HT_ ?_
              refine take_ (i := 1) (N := some 34) (v := ?_) (a' := ?_) zm2 rfl rfl (take_ofW HT_.out HW_.out (by kernel_rfl)) (fun _ _ _ h => h) (Or.inl ⟨by rfl, ?_⟩) hHeld ?_ ?_
              rotate_left
              ·
               rintro w' ⟨s0, s1, s2, s3, s4, s5, s6, s7, s8, s9, s10⟩
               go_simp
               with_reducible rfl
              rotate_left
              ·
               simp only [Act.put, List.setIfInBounds_toArray, List.set_cons_zero, List.set_cons_succ, i64_w, i32_w]
               rfl
              refine one_ (i := 2) (N := some 35) zm3 rfl rfl (one_of HT_.out (by kernel_rfl)) (by decide) (fun K hK => ?_)
              refine goes_ Tryd.func46 (by kernel_rfl) rfl #[.string ((rd_T71 l0_2 x3_2).f0)] (by rfl) rfl rfl zb1_5 ?_
              with_reducible refine (spec_l05Domain.calls k2 ((rd_T71 l0_2 x3_2).f0) true _ A14.out).mono ?_
              rintro e w' ⟨rfl, ⟨nd, rfl⟩⟩
              refine ⟨_, rfl, ?_⟩
              refine hK.out _ _ ⟨(blk_cell BK166.out 0).trans rfl, (blk_cell BK166.out 1).trans rfl, (blk_cell BK166.out 2).trans rfl, (blk_cell BK166.out 3).trans rfl, (blk_cell BK162.out 0).trans rfl, (blk_cell BK162.out 1).trans rfl, (blk_cell BK162.out 2).trans rfl, ((HB.out.cell (World.block_lt_of_cell? w _ hw169_0)).trans hw169_0), ((HB.out.cell (World.block_lt_of_cell? w _ hw169_1)).trans hw169_1), ((HB.out.cell (World.block_lt_of_cell? w _ hw169_2)).trans hw169_2), ((HB.out.cell (World.block_lt_of_cell? w _ hw169_3)).trans hw169_3)⟩ (fun hHeld => ?_)
              clear hK K
              refine norm_ (a' := ?_) ?_ ?_
              rotate_left
              ·
               show Act.put _ (some 35) _ = _
               simp only [Act.put, List.setIfInBounds_toArray, List.set_cons_zero, List.set_cons_succ, i64_w, i32_w]
               rfl
              refine zp 3 (some 36) zm4 HT_ ?_
              refine zp 4 (some 37) zm5 HT_ ?_
              refine zp 5 (some 38) zm6 HT_ ?_
              refine zp 7 (some 40) zm7 HT_ ?_
              refine take_ (i := 6) (N := some 39) (v := ?_) (a' := ?_) zm8 rfl rfl (take_ofW HT_.out HW_.out (by kernel_rfl)) (fun _ _ _ h => h) (Or.inl ⟨by rfl, ?_⟩) hHeld ?_ ?_
              rotate_left
              ·
               rintro w' ⟨s0, s1, s2, s3, s4, s5, s6, s7, s8, s9, s10⟩
               go_simp
               with_reducible rfl
              rotate_left
              ·
               simp only [Act.put, List.setIfInBounds_toArray, List.set_cons_zero, List.set_cons_succ, i64_w, i32_w]
               rfl
              refine take_ (i := 8) (N := some 41) (v := ?_) (a' := ?_) zm9 rfl rfl (take_ofW HT_.out HW_.out (by kernel_rfl)) (fun _ _ _ h => h) (Or.inl ⟨by rfl, ?_⟩) hHeld ?_ ?_
              rotate_left
              ·
               rintro w' ⟨s0, s1, s2, s3, s4, s5, s6, s7, s8, s9, s10⟩
               go_simp
               with_reducible rfl
              rotate_left
              ·
               simp only [Act.put, List.setIfInBounds_toArray, List.set_cons_zero, List.set_cons_succ, i64_w, i32_w]
               rfl
              refine zp 9 (some 42) zm10 HT_ ?_
              refine one_ (i := 10) (N := some 43) zm11 rfl rfl (one_of HT_.out (by kernel_rfl)) (by decide) (fun K hK => ?_)
              refine goes_ Tryd.func47 (by kernel_rfl) rfl #[.int .i64 ((rd_T71 l0_2 x3_2).f1), .int .i64 1, .int .i64 (wrap64 (a0_1 - 1))] (by rfl) rfl rfl zb1_5 ?_
              with_reducible refine (spec_l03Is.calls ((rd_T71 l0_2 x3_2).f1) 1 (wrap64 (a0_1 - 1)) true _ A16.out).mono ?_
              rintro e w' ⟨rfl, ⟨nd, rfl⟩⟩
              refine ⟨_, rfl, ?_⟩
              refine hK.out _ _ ⟨(blk_cell BK166.out 0).trans rfl, (blk_cell BK166.out 1).trans rfl, (blk_cell BK166.out 2).trans rfl, (blk_cell BK166.out 3).trans rfl, (blk_cell BK162.out 0).trans rfl, (blk_cell BK162.out 1).trans rfl, (blk_cell BK162.out 2).trans rfl, ((HB.out.cell (World.block_lt_of_cell? w _ hw169_0)).trans hw169_0), ((HB.out.cell (World.block_lt_of_cell? w _ hw169_1)).trans hw169_1), ((HB.out.cell (World.block_lt_of_cell? w _ hw169_2)).trans hw169_2), ((HB.out.cell (World.block_lt_of_cell? w _ hw169_3)).trans hw169_3)⟩ (fun hHeld => ?_)
              clear hK K
              refine norm_ (a' := ?_) ?_ ?_
              rotate_left
              ·
               show Act.put _ (some 43) _ = _
               simp only [Act.put, List.setIfInBounds_toArray, List.set_cons_zero, List.set_cons_succ, i64_w, i32_w]
               rfl
              refine zp 11 (some 44) zm12 HT_ ?_
              refine zp 12 (some 45) zm13 HT_ ?_
              refine zp 13 (some 46) zm14 HT_ ?_
              refine zp 14 (some 47) zm15 HT_ ?_
              refine zp 15 (some 48) zm16 HT_ ?_
              refine zp 16 (some 49) zm17 HT_ ?_
              refine zp 17 (some 50) zm18 HT_ ?_
              refine zp 19 (some 52) zm19 HT_ ?_
              refine zp 20 (some 53) zm20 HT_ ?_
              refine zp 24 (some 57) zm21 HT_ ?_
              refine take_ (i := 18) (N := some 51) (v := ?_) (a' := ?_) zm22 rfl rfl (take_ofW HT_.out HW_.out (by kernel_rfl)) (fun _ _ _ h => h) (Or.inl ⟨by rfl, ?_⟩) hHeld ?_ ?_
              rotate_left
              ·
               rintro w' ⟨s0, s1, s2, s3, s4, s5, s6, s7, s8, s9, s10⟩
               go_simp
               with_reducible rfl
              rotate_left
              ·
               simp only [Act.put, List.setIfInBounds_toArray, List.set_cons_zero, List.set_cons_succ, i64_w, i32_w]
               rfl
              refine zp 21 (some 54) zm23 HT_ ?_
              refine zp 22 (some 55) zm24 HT_ ?_
              refine take_ (i := 23) (N := some 56) (v := ?_) (a' := ?_) zm25 rfl rfl (take_ofW HT_.out HW_.out (by kernel_rfl)) (fun _ _ _ h => h) (Or.inl ⟨by rfl, ?_⟩) hHeld ?_ ?_
              rotate_left
              ·
               rintro w' ⟨s0, s1, s2, s3, s4, s5, s6, s7, s8, s9, s10⟩
               go_simp
               with_reducible rfl
              rotate_left
              ·
               simp only [Act.put, List.setIfInBounds_toArray, List.set_cons_zero, List.set_cons_succ, i64_w, i32_w]
               rfl
              refine take_ (i := 25) (N := some 58) (v := ?_) (a' := ?_) zm26 rfl rfl (take_ofW HT_.out HW_.out (by kernel_rfl)) (fun _ _ _ h => h) (Or.inl ⟨by rfl, ?_⟩) hHeld ?_ ?_
              rotate_left
              ·
               rintro w' ⟨s0, s1, s2, s3, s4, s5, s6, s7, s8, s9, s10⟩
               go_simp
               with_reducible rfl
              rotate_left
              ·
               simp only [Act.put, List.setIfInBounds_toArray, List.set_cons_zero, List.set_cons_succ, i64_w, i32_w]
               rfl
              refine zp 26 (some 59) zm27 HT_ ?_
              refine zp 27 (some 60) zm28 HT_ ?_
              refine zp 28 (some 61) zm29 HT_ ?_
              refine zp 29 (some 62) zm30 HT_ ?_
              refine zu 30 (some 63) zm31 HT_ ?_
              refine zu 31 (some 64) zm32 HT_ ?_
              refine zu 32 (some 65) zm33 HT_ ?_
              refine zu 33 (some 66) zm34 HT_ ?_
              refine zp 34 (some 67) zm35 HT_ ?_
              refine zp 35 (some 68) zm36 HT_ ?_
              refine zu 36 (some 69) zm37 HT_ ?_
              refine zu 37 (some 70) zm38 HT_ ?_
              refine zu 38 (some 71) zm39 HT_ ?_
              refine zu 39 (some 72) zm40 HT_ ?_
              refine zp 40 (some 73) zm41 HT_ ?_
              refine zp 41 (some 74) zm42 HT_ ?_
              refine zu 42 (some 75) zm43 HT_ ?_
              refine zu 43 (some 76) zm44 HT_ ?_
              refine zu 44 (some 77) zm45 HT_ ?_
              refine zu 45 (some 78) zm46 HT_ ?_
              refine zu 46 (some 79) zm47 HT_ ?_
              refine zu 47 (some 80) zm48 HT_ ?_
              refine zu 48 (some 81) zm49 HT_ ?_
              refine zp 49 (some 82) zm50 HT_ ?_
              refine done_ (done_of HT_.out (by kernel_rfl)) ?_
              try go_wp2
              go_ret
              exact ⟨by first | rfl | (simp [errW_none, errW_some] <;> rfl) | (simp only [← hji19]; first | rfl | (simp [errW_none, errW_some] <;> rfl)) | (simp [*, errW_none, errW_some] <;> rfl), by repeat (first | (with_reducible first | exact HB.out | apply below_alloc | apply pw_below_drewN | apply below_drew1 | refine below_set ?_ GE162.out | refine below_set ?_ GE166.out) | exact HB.out)⟩
             ·
              rw [if_neg c22] at H
              have c22b0 : decide (((rd_T71 l0_2 x3_2).f1) ≤ ((rd_T71 l0_2 (ji19)).f1)) = false := decide_eq_false c22
              clear c22
              replace H := Option.bind_eq_some_iff.mp H
              obtain ⟨t170, A290, H⟩ := H
              replace H : (if t170 = true then (if (((rd_T71 l0_2 x3_2).f3).size : Int) > 64 then (some false) else (if ((((rd_T71 l0_2 x3_2).f3).toList == ([] : List UInt8)) != (((rd_T71 l0_2 x3_2).f2) == 0)) = true then (some false) else (spec_DialbackRight.l0 k2 (wrap64 (x3_2 + 1)) a0_0 a0_1 l0_2))) else (some false)) = some r := H
              have A29 := Aside0.mk A290
              clear A290
              by_cases c30 : t170 = true
              ·
               subst c30
               have H1 : (if (((rd_T71 l0_2 x3_2).f3).size : Int) > 64 then (some false) else (if ((((rd_T71 l0_2 x3_2).f3).toList == ([] : List UInt8)) != (((rd_T71 l0_2 x3_2).f2) == 0)) = true then (some false) else (spec_DialbackRight.l0 k2 (wrap64 (x3_2 + 1)) a0_0 a0_1 l0_2))) = some r := by rw [if_pos rfl] at H; exact H
               clear H
               have H := H1
               clear H1
               by_cases c31 : (((rd_T71 l0_2 x3_2).f3).size : Int) > 64
               ·
                rw [if_pos c31] at H
                have c31b0 : decide (64 < (((rd_T71 l0_2 x3_2).f3).size : Int)) = true := decide_eq_true c31
                have c31b1 : decide (64 < ((rd_T71 l0_2 x3_2).f3).size) = true := decide_eq_true (by omega)
                clear c31
                obtain rfl := Option.some.inj H
                have hcz32_0 := bcq_5 BK162.out 0
                have hcz32_1 := bcq_5 BK162.out 1
                have hcz32_2 := bcq_5 BK162.out 2
                have hfz32_0 := blk_frozen BK162.out 0
                have hfz32_1 := blk_frozen BK162.out 1
                have hfz32_2 := blk_frozen BK162.out 2
                have p165 : 0 ≤ (x3_2 : Int) := of_decide_eq_true zb3_5
                have q165 : x3_2 < (l0_2.length : Int) := of_decide_eq_true zb3_5
                obtain ⟨ad165, e165, hx165_0, hx165_1, hx165_2, hx165_3⟩ := at_T71 HR0_2.out x3_2 p165 q165
                cases e165
                replace hx165_0 := (HB.out.cell (World.block_lt_of_cell? w _ hx165_0)).trans hx165_0
                replace hx165_1 := (HB.out.cell (World.block_lt_of_cell? w _ hx165_1)).trans hx165_1
                replace hx165_2 := (HB.out.cell (World.block_lt_of_cell? w _ hx165_2)).trans hx165_2
                replace hx165_3 := (HB.out.cell (World.block_lt_of_cell? w _ hx165_3)).trans hx165_3
                replace p165 := eq_true p165
                replace q165 := eq_true q165
                try go_wp2_with (first | ((with_reducible refine gate_dst (N := 4) rfl ?_); (try (refine gate_guard (by rfl) ?_; dsimp only)); refine box_event ?hg (N := 4) ?hd (cs := #[.string (⟨#[]⟩ : ByteArray), .int .i64 0, .int .i64 0, .string (⟨#[]⟩ : ByteArray)]) (t := 71) ?hr ?_; (case hd => rfl); (case hg => rfl); (case hr => first | (go_simp; done) | (go_simp; rfl)); intro gb166 hg w33 hbox hb; have n0_ := Aside0.mk (blk_below (g := gb162) (o := .cells #[.string a0_0, .int .i64 a0_1, .slice (some ad165) l0_2.length c0_2] 40 (0, 0)) zb4_5 hb); have n1_ := Aside0.mk (below_step zb5_5 hb); have n2_ := Aside0.mk (hbox); have n3_ := Aside0.mk ((zb6_5 : w.heap.size ≤ gb166)); have n4_ := Aside0.mk ((zb6_5 : w.heap.size ≤ gb166)); have n5_ := Aside0.mk ((zb7_5 : gb162 ≠ gb166)); have n6_ := Aside0.mk ((zb8_5 : gb166 ≠ gb162)); clear BK162; clear HB; have BK162 := n0_; have HB := n1_; have BK166 := n2_; have GW166 := n3_; have GE166 := n4_; have NB162_166 := n5_; have NB166_162 := n6_; clear n0_ n1_ n2_ n3_ n4_ n5_ n6_; clear hb hbox hg; have hnb34 := NB166_162.out; have hnc34 := NB162_166.out; have hcz35_0 := bcq_5 BK166.out 0; have hcz35_1 := bcq_5 BK166.out 1; have hcz35_2 := bcq_5 BK166.out 2; have hcz35_3 := bcq_5 BK166.out 3; have hfz35_0 := blk_frozen BK166.out 0; have hfz35_1 := blk_frozen BK166.out 1; have hfz35_2 := blk_frozen BK166.out 2; have hfz35_3 := blk_frozen BK166.out 3))
                have n0_ : Aside0 (((((w33.setCell ⟨gb166, 0, none⟩ (.string ((rd_T71 l0_2 x3_2).f0))).setCell ⟨gb166, 1, none⟩ (.int .i64 ((rd_T71 l0_2 x3_2).f1))).setCell ⟨gb166, 2, none⟩ (.int .i64 ((rd_T71 l0_2 x3_2).f2))).setCell ⟨gb166, 3, none⟩ (.string ((rd_T71 l0_2 x3_2).f3))).heap[gb162]? = some (.cells #[.string a0_0, .int .i64 a0_1, .slice (some ad165) l0_2.length c0_2] 40 (0, 0))) := ⟨by (with_reducible repeat (first | refine blk_drewN ?_ _ | refine blk_drew ?_ | refine blk_alloc ?_ _)); refine blk_far ?_ NB162_166.out _; (with_reducible repeat (first | refine blk_drewN ?_ _ | refine blk_drew ?_ | refine blk_alloc ?_ _)); refine blk_far ?_ NB162_166.out _; (with_reducible repeat (first | refine blk_drewN ?_ _ | refine blk_drew ?_ | refine blk_alloc ?_ _)); refine blk_far ?_ NB162_166.out _; (with_reducible repeat (first | refine blk_drewN ?_ _ | refine blk_drew ?_ | refine blk_alloc ?_ _)); refine blk_far ?_ NB162_166.out _; (with_reducible repeat (first | refine blk_drewN ?_ _ | refine blk_drew ?_ | refine blk_alloc ?_ _)); exact BK162.out⟩
                have n1_ : Aside0 (((((w33.setCell ⟨gb166, 0, none⟩ (.string ((rd_T71 l0_2 x3_2).f0))).setCell ⟨gb166, 1, none⟩ (.int .i64 ((rd_T71 l0_2 x3_2).f1))).setCell ⟨gb166, 2, none⟩ (.int .i64 ((rd_T71 l0_2 x3_2).f2))).setCell ⟨gb166, 3, none⟩ (.string ((rd_T71 l0_2 x3_2).f3))).heap[gb166]? = some (.cells #[.string ((rd_T71 l0_2 x3_2).f0), .int .i64 ((rd_T71 l0_2 x3_2).f1), .int .i64 ((rd_T71 l0_2 x3_2).f2), .string ((rd_T71 l0_2 x3_2).f3)] 71 (0, 0))) := ⟨by (with_reducible repeat (first | refine blk_drewN ?_ _ | refine blk_drew ?_ | refine blk_alloc ?_ _)); refine blk_put (cs := #[.string ((rd_T71 l0_2 x3_2).f0), .int .i64 ((rd_T71 l0_2 x3_2).f1), .int .i64 ((rd_T71 l0_2 x3_2).f2), .string (⟨#[]⟩ : ByteArray)]) ?_ 3 _ rfl; (with_reducible repeat (first | refine blk_drewN ?_ _ | refine blk_drew ?_ | refine blk_alloc ?_ _)); refine blk_put (cs := #[.string ((rd_T71 l0_2 x3_2).f0), .int .i64 ((rd_T71 l0_2 x3_2).f1), .int .i64 0, .string (⟨#[]⟩ : ByteArray)]) ?_ 2 _ rfl; (with_reducible repeat (first | refine blk_drewN ?_ _ | refine blk_drew ?_ | refine blk_alloc ?_ _)); refine blk_put (cs := #[.string ((rd_T71 l0_2 x3_2).f0), .int .i64 0, .int .i64 0, .string (⟨#[]⟩ : ByteArray)]) ?_ 1 _ rfl; (with_reducible repeat (first | refine blk_drewN ?_ _ | refine blk_drew ?_ | refine blk_alloc ?_ _)); refine blk_put (cs := #[.string (⟨#[]⟩ : ByteArray), .int .i64 0, .int .i64 0, .string (⟨#[]⟩ : ByteArray)]) ?_ 0 _ rfl; (with_reducible repeat (first | refine blk_drewN ?_ _ | refine blk_drew ?_ | refine blk_alloc ?_ _)); exact BK166.out⟩
                have n2_ : Aside0 (Below w.heap.size w ((((w33.setCell ⟨gb166, 0, none⟩ (.string ((rd_T71 l0_2 x3_2).f0))).setCell ⟨gb166, 1, none⟩ (.int .i64 ((rd_T71 l0_2 x3_2).f1))).setCell ⟨gb166, 2, none⟩ (.int .i64 ((rd_T71 l0_2 x3_2).f2))).setCell ⟨gb166, 3, none⟩ (.string ((rd_T71 l0_2 x3_2).f3)))) := ⟨by repeat (first | (with_reducible first | exact HB.out | apply below_alloc | apply pw_below_drewN | apply below_drew1 | refine below_set ?_ GE162.out | refine below_set ?_ GE166.out) | exact HB.out)⟩
                (try clear BK162)
                (try clear BK166)
                (try clear HB)
                generalize ((((w33.setCell ⟨gb166, 0, none⟩ (.string ((rd_T71 l0_2 x3_2).f0))).setCell ⟨gb166, 1, none⟩ (.int .i64 ((rd_T71 l0_2 x3_2).f1))).setCell ⟨gb166, 2, none⟩ (.int .i64 ((rd_T71 l0_2 x3_2).f2))).setCell ⟨gb166, 3, none⟩ (.string ((rd_T71 l0_2 x3_2).f3))) = w36 at n0_ n1_ n2_ ⊢
                have BK162 := n0_
                have BK166 := n1_
                have HB := n2_
                clear n0_ n1_ n2_
                have n0_ := Aside0.mk (blk_drew BK162.out)
                have n1_ := Aside0.mk (blk_drew BK166.out)
                have n2_ := Aside0.mk (below_drew1 HB.out)
                clear BK162
                clear BK166
                clear HB
                have BK162 := n0_
                have BK166 := n1_
                have HB := n2_
                clear n0_ n1_ n2_
                have p169 : 0 ≤ ((ji19) : Int) := of_decide_eq_true zb3_5
                have q169 : (ji19) < (l0_2.length : Int) := of_decide_eq_true zb3_5
                obtain ⟨ad169, e169, hx169_0, hx169_1, hx169_2, hx169_3⟩ := at_T71 HR0_2.out (ji19) p169 q169
                have hw169_3 := hx169_3
                have hw169_2 := hx169_2
                have hw169_1 := hx169_1
                have hw169_0 := hx169_0
                obtain rfl : ad165 = ad169 := (by injection e169)
                replace hx169_0 := (HB.out.cell (World.block_lt_of_cell? w _ hx169_0)).trans hx169_0
                replace hx169_1 := (HB.out.cell (World.block_lt_of_cell? w _ hx169_1)).trans hx169_1
                replace hx169_2 := (HB.out.cell (World.block_lt_of_cell? w _ hx169_2)).trans hx169_2
                replace hx169_3 := (HB.out.cell (World.block_lt_of_cell? w _ hx169_3)).trans hx169_3
                replace p169 := eq_true p169
                replace q169 := eq_true q169
                refine start_ (n := 50) (S := fun w' => w'.cell? ⟨gb166, 0, none⟩ = some (.string ((rd_T71 l0_2 x3_2).f0)) ∧ w'.cell? ⟨gb166, 1, none⟩ = some (.int .i64 ((rd_T71 l0_2 x3_2).f1)) ∧ w'.cell? ⟨gb166, 2, none⟩ = some (.int .i64 ((rd_T71 l0_2 x3_2).f2)) ∧ w'.cell? ⟨gb166, 3, none⟩ = some (.string ((rd_T71 l0_2 x3_2).f3)) ∧ w'.cell? ⟨gb162, 0, none⟩ = some (.string a0_0) ∧ w'.cell? ⟨gb162, 1, none⟩ = some (.int .i64 a0_1) ∧ w'.cell? ⟨gb162, 2, none⟩ = some (.slice (some ad165) l0_2.length c0_2) ∧ w'.cell? (ad165.add (((ji19)).toNat * 4)) = some (.string ((rd_T71 l0_2 (ji19)).f0)) ∧ w'.cell? ⟨(ad165.add (((ji19)).toNat * 4)).block, (ad165.add (((ji19)).toNat * 4)).off + 1, none⟩ = some (.int .i64 ((rd_T71 l0_2 (ji19)).f1)) ∧ w'.cell? ⟨(ad165.add (((ji19)).toNat * 4)).block, (ad165.add (((ji19)).toNat * 4)).off + 2, none⟩ = some (.int .i64 ((rd_T71 l0_2 (ji19)).f2)) ∧ w'.cell? ⟨(ad165.add (((ji19)).toNat * 4)).block, (ad165.add (((ji19)).toNat * 4)).off + 3, none⟩ = some (.string ((rd_T71 l0_2 (ji19)).f3))) (ds := []) zm0 (by kernel_rfl) rfl rfl ⟨(blk_cell BK166.out 0).trans rfl, (blk_cell BK166.out 1).trans rfl, (blk_cell BK166.out 2).trans rfl, (blk_cell BK166.out 3).trans rfl, (blk_cell BK162.out 0).trans rfl, (blk_cell BK162.out 1).trans rfl, (blk_cell BK162.out 2).trans rfl, ((HB.out.cell (World.block_lt_of_cell? w _ hw169_0)).trans hw169_0), ((HB.out.cell (World.block_lt_of_cell? w _ hw169_1)).trans hw169_1), ((HB.out.cell (World.block_lt_of_cell? w _ hw169_2)).trans hw169_2), ((HB.out.cell (World.block_lt_of_cell? w _ hw169_3)).trans hw169_3)⟩ (fun hHeld => ?_); refine with_tabW spec_DialbackRight.tab7 spec_DialbackRight.bits7 (fun HT_ HW_ => ?_)
                generalize w36.drew = w37 at BK162 BK166 HB hx169_0 hx169_1 hx169_2 hx169_3 hHeld ⊢
                refine zp 0 (some 33) zm1 HT_ ?_
                refine take_ (i := 1) (N := some 34) (v := ?_) (a' := ?_) zm2 rfl rfl (take_ofW HT_.out HW_.out (by kernel_rfl)) (fun _ _ _ h => h) (Or.inl ⟨by rfl, ?_⟩) hHeld ?_ ?_
                rotate_left
                ·
                 rintro w' ⟨s0, s1, s2, s3, s4, s5, s6, s7, s8, s9, s10⟩
                 go_simp
                 with_reducible rfl
                rotate_left
                ·
                 simp only [Act.put, List.setIfInBounds_toArray, List.set_cons_zero, List.set_cons_succ, i64_w, i32_w]
                 rfl
                refine one_ (i := 2) (N := some 35) zm3 rfl rfl (one_of HT_.out (by kernel_rfl)) (by decide) (fun K hK => ?_)
                refine goes_ Tryd.func46 (by kernel_rfl) rfl #[.string ((rd_T71 l0_2 x3_2).f0)] (by rfl) rfl rfl zb1_5 ?_
                with_reducible refine (spec_l05Domain.calls k2 ((rd_T71 l0_2 x3_2).f0) true _ A14.out).mono ?_
                rintro e w' ⟨rfl, ⟨nd, rfl⟩⟩
                refine ⟨_, rfl, ?_⟩
                refine hK.out _ _ ⟨(blk_cell BK166.out 0).trans rfl, (blk_cell BK166.out 1).trans rfl, (blk_cell BK166.out 2).trans rfl, (blk_cell BK166.out 3).trans rfl, (blk_cell BK162.out 0).trans rfl, (blk_cell BK162.out 1).trans rfl, (blk_cell BK162.out 2).trans rfl, ((HB.out.cell (World.block_lt_of_cell? w _ hw169_0)).trans hw169_0), ((HB.out.cell (World.block_lt_of_cell? w _ hw169_1)).trans hw169_1), ((HB.out.cell (World.block_lt_of_cell? w _ hw169_2)).trans hw169_2), ((HB.out.cell (World.block_lt_of_cell? w _ hw169_3)).trans hw169_3)⟩ (fun hHeld => ?_)
                clear hK K
                refine norm_ (a' := ?_) ?_ ?_
                rotate_left
                ·
                 show Act.put _ (some 35) _ = _
                 simp only [Act.put, List.setIfInBounds_toArray, List.set_cons_zero, List.set_cons_succ, i64_w, i32_w]
                 rfl
                refine zp 3 (some 36) zm4 HT_ ?_
                refine zp 4 (some 37) zm5 HT_ ?_
                refine zp 5 (some 38) zm6 HT_ ?_
                refine zp 7 (some 40) zm7 HT_ ?_
                refine take_ (i := 6) (N := some 39) (v := ?_) (a' := ?_) zm8 rfl rfl (take_ofW HT_.out HW_.out (by kernel_rfl)) (fun _ _ _ h => h) (Or.inl ⟨by rfl, ?_⟩) hHeld ?_ ?_
                rotate_left
                ·
                 rintro w' ⟨s0, s1, s2, s3, s4, s5, s6, s7, s8, s9, s10⟩
                 go_simp
                 with_reducible rfl
                rotate_left
                ·
                 simp only [Act.put, List.setIfInBounds_toArray, List.set_cons_zero, List.set_cons_succ, i64_w, i32_w]
                 rfl
                refine take_ (i := 8) (N := some 41) (v := ?_) (a' := ?_) zm9 rfl rfl (take_ofW HT_.out HW_.out (by kernel_rfl)) (fun _ _ _ h => h) (Or.inl ⟨by rfl, ?_⟩) hHeld ?_ ?_
                rotate_left
                ·
                 rintro w' ⟨s0, s1, s2, s3, s4, s5, s6, s7, s8, s9, s10⟩
                 go_simp
                 with_reducible rfl
                rotate_left
                ·
                 simp only [Act.put, List.setIfInBounds_toArray, List.set_cons_zero, List.set_cons_succ, i64_w, i32_w]
                 rfl
                refine zp 9 (some 42) zm10 HT_ ?_
                refine one_ (i := 10) (N := some 43) zm11 rfl rfl (one_of HT_.out (by kernel_rfl)) (by decide) (fun K hK => ?_)
                refine goes_ Tryd.func47 (by kernel_rfl) rfl #[.int .i64 ((rd_T71 l0_2 x3_2).f1), .int .i64 1, .int .i64 (wrap64 (a0_1 - 1))] (by rfl) rfl rfl zb1_5 ?_
                with_reducible refine (spec_l03Is.calls ((rd_T71 l0_2 x3_2).f1) 1 (wrap64 (a0_1 - 1)) true _ A16.out).mono ?_
                rintro e w' ⟨rfl, ⟨nd, rfl⟩⟩
                refine ⟨_, rfl, ?_⟩
                refine hK.out _ _ ⟨(blk_cell BK166.out 0).trans rfl, (blk_cell BK166.out 1).trans rfl, (blk_cell BK166.out 2).trans rfl, (blk_cell BK166.out 3).trans rfl, (blk_cell BK162.out 0).trans rfl, (blk_cell BK162.out 1).trans rfl, (blk_cell BK162.out 2).trans rfl, ((HB.out.cell (World.block_lt_of_cell? w _ hw169_0)).trans hw169_0), ((HB.out.cell (World.block_lt_of_cell? w _ hw169_1)).trans hw169_1), ((HB.out.cell (World.block_lt_of_cell? w _ hw169_2)).trans hw169_2), ((HB.out.cell (World.block_lt_of_cell? w _ hw169_3)).trans hw169_3)⟩ (fun hHeld => ?_)
                clear hK K
                refine norm_ (a' := ?_) ?_ ?_
                rotate_left
                ·
                 show Act.put _ (some 43) _ = _
                 simp only [Act.put, List.setIfInBounds_toArray, List.set_cons_zero, List.set_cons_succ, i64_w, i32_w]
                 rfl
                refine zp 11 (some 44) zm12 HT_ ?_
                refine zp 12 (some 45) zm13 HT_ ?_
                refine zp 13 (some 46) zm14 HT_ ?_
                refine zp 14 (some 47) zm15 HT_ ?_
                refine zp 15 (some 48) zm16 HT_ ?_
                refine zp 16 (some 49) zm17 HT_ ?_
                refine zp 17 (some 50) zm18 HT_ ?_
                refine zp 19 (some 52) zm19 HT_ ?_
                refine zp 20 (some 53) zm20 HT_ ?_
                refine zp 24 (some 57) zm21 HT_ ?_
                refine take_ (i := 18) (N := some 51) (v := ?_) (a' := ?_) zm22 rfl rfl (take_ofW HT_.out HW_.out (by kernel_rfl)) (fun _ _ _ h => h) (Or.inl ⟨by rfl, ?_⟩) hHeld ?_ ?_
                rotate_left
                ·
                 rintro w' ⟨s0, s1, s2, s3, s4, s5, s6, s7, s8, s9, s10⟩
                 go_simp
                 with_reducible rfl
                rotate_left
                ·
                 simp only [Act.put, List.setIfInBounds_toArray, List.set_cons_zero, List.set_cons_succ, i64_w, i32_w]
                 rfl
                refine zp 21 (some 54) zm23 HT_ ?_
                refine zp 22 (some 55) zm24 HT_ ?_
                refine take_ (i := 23) (N := some 56) (v := ?_) (a' := ?_) zm25 rfl rfl (take_ofW HT_.out HW_.out (by kernel_rfl)) (fun _ _ _ h => h) (Or.inl ⟨by rfl, ?_⟩) hHeld ?_ ?_
                rotate_left
                ·
                 rintro w' ⟨s0, s1, s2, s3, s4, s5, s6, s7, s8, s9, s10⟩
                 go_simp
                 with_reducible rfl
                rotate_left
                ·
                 simp only [Act.put, List.setIfInBounds_toArray, List.set_cons_zero, List.set_cons_succ, i64_w, i32_w]
                 rfl
                refine take_ (i := 25) (N := some 58) (v := ?_) (a' := ?_) zm26 rfl rfl (take_ofW HT_.out HW_.out (by kernel_rfl)) (fun _ _ _ h => h) (Or.inl ⟨by rfl, ?_⟩) hHeld ?_ ?_
                rotate_left
                ·
                 rintro w' ⟨s0, s1, s2, s3, s4, s5, s6, s7, s8, s9, s10⟩
                 go_simp
                 with_reducible rfl
                rotate_left
                ·
                 simp only [Act.put, List.setIfInBounds_toArray, List.set_cons_zero, List.set_cons_succ, i64_w, i32_w]
                 rfl
                refine zp 26 (some 59) zm27 HT_ ?_
                refine zp 27 (some 60) zm28 HT_ ?_
                refine zp 28 (some 61) zm29 HT_ ?_
                refine zp 29 (some 62) zm30 HT_ ?_
                refine zp 30 (some 63) zm31 HT_ ?_
                refine take_ (i := 31) (N := some 64) (v := ?_) (a' := ?_) zm32 rfl rfl (take_ofW HT_.out HW_.out (by kernel_rfl)) (fun _ _ _ h => h) (Or.inl ⟨by rfl, ?_⟩) hHeld ?_ ?_
                rotate_left
                ·
                 rintro w' ⟨s0, s1, s2, s3, s4, s5, s6, s7, s8, s9, s10⟩
                 go_simp
                 with_reducible rfl
                rotate_left
                ·
                 simp only [Act.put, List.setIfInBounds_toArray, List.set_cons_zero, List.set_cons_succ, i64_w, i32_w]
                 rfl
                refine one_ (i := 32) (N := some 65) zm33 rfl rfl (one_of HT_.out (by kernel_rfl)) (by decide) (fun K hK => ?_)
                refine goes_ Tryd.func47 (by kernel_rfl) rfl #[.int .i64 ((rd_T71 l0_2 x3_2).f2), .int .i64 0, .int .i64 3] (by rfl) rfl rfl zb1_5 ?_
                with_reducible refine (spec_l03Is.calls ((rd_T71 l0_2 x3_2).f2) 0 3 true _ A29.out).mono ?_
                rintro e w' ⟨rfl, ⟨nd, rfl⟩⟩
                refine ⟨_, rfl, ?_⟩
                refine hK.out _ _ ⟨(blk_cell BK166.out 0).trans rfl, (blk_cell BK166.out 1).trans rfl, (blk_cell BK166.out 2).trans rfl, (blk_cell BK166.out 3).trans rfl, (blk_cell BK162.out 0).trans rfl, (blk_cell BK162.out 1).trans rfl, (blk_cell BK162.out 2).trans rfl, ((HB.out.cell (World.block_lt_of_cell? w _ hw169_0)).trans hw169_0), ((HB.out.cell (World.block_lt_of_cell? w _ hw169_1)).trans hw169_1), ((HB.out.cell (World.block_lt_of_cell? w _ hw169_2)).trans hw169_2), ((HB.out.cell (World.block_lt_of_cell? w _ hw169_3)).trans hw169_3)⟩ (fun hHeld => ?_)
                clear hK K
                refine norm_ (a' := ?_) ?_ ?_
                rotate_left
                ·
                 show Act.put _ (some 65) _ = _
                 simp only [Act.put, List.setIfInBounds_toArray, List.set_cons_zero, List.set_cons_succ, i64_w, i32_w]
                 rfl
                refine zp 33 (some 66) zm34 HT_ ?_
                refine zp 34 (some 67) zm35 HT_ ?_
                refine zp 35 (some 68) zm36 HT_ ?_
                refine zp 36 (some 69) zm37 HT_ ?_
                refine take_ (i := 37) (N := some 70) (v := ?_) (a' := ?_) zm38 rfl rfl (take_ofW HT_.out HW_.out (by kernel_rfl)) (fun _ _ _ h => h) (Or.inl ⟨by rfl, ?_⟩) hHeld ?_ ?_
                rotate_left
                ·
                 rintro w' ⟨s0, s1, s2, s3, s4, s5, s6, s7, s8, s9, s10⟩
                 go_simp
                 with_reducible rfl
                rotate_left
                ·
                 simp only [Act.put, List.setIfInBounds_toArray, List.set_cons_zero, List.set_cons_succ, i64_w, i32_w]
                 rfl
                refine zp 38 (some 71) zm39 HT_ ?_
                refine zp 39 (some 72) zm40 HT_ ?_
                refine zp 40 (some 73) zm41 HT_ ?_
                refine zp 41 (some 74) zm42 HT_ ?_
                refine zu 42 (some 75) zm43 HT_ ?_
                refine zu 43 (some 76) zm44 HT_ ?_
                refine zu 44 (some 77) zm45 HT_ ?_
                refine zu 45 (some 78) zm46 HT_ ?_
                refine zu 46 (some 79) zm47 HT_ ?_
                refine zu 47 (some 80) zm48 HT_ ?_
                refine zu 48 (some 81) zm49 HT_ ?_
                refine zp 49 (some 82) zm50 HT_ ?_
                refine done_ (done_of HT_.out (by kernel_rfl)) ?_
                try go_wp2
                go_ret
                exact ⟨by first | rfl | (simp [errW_none, errW_some] <;> rfl) | (simp only [← hji19]; first | rfl | (simp [errW_none, errW_some] <;> rfl)) | (simp [*, errW_none, errW_some] <;> rfl), by repeat (first | (with_reducible first | exact HB.out | apply below_alloc | apply pw_below_drewN | apply below_drew1 | refine below_set ?_ GE162.out | refine below_set ?_ GE166.out) | exact HB.out)⟩
               ·
                rw [if_neg c31] at H
                have c31b0 : decide (64 < (((rd_T71 l0_2 x3_2).f3).size : Int)) = false := decide_eq_false c31
                have c31b1 : decide (64 < ((rd_T71 l0_2 x3_2).f3).size) = false := decide_eq_false (by omega)
                clear c31
                by_cases c38 : ((((rd_T71 l0_2 x3_2).f3).toList == ([] : List UInt8)) != (((rd_T71 l0_2 x3_2).f2) == 0)) = true
                ·
                 rw [if_pos c38] at H
                 have c38b0 : ((((rd_T71 l0_2 x3_2).f3).toList == ([] : List UInt8)) != (((rd_T71 l0_2 x3_2).f2) == 0)) = true := c38
                 try have c38b9 : (((rd_T71 l0_2 x3_2).f3).toList.isEmpty == (((rd_T71 l0_2 x3_2).f2) == 0)) = false := by have hem_ : ∀ l : List UInt8, l.isEmpty = (l == []) := (fun l => by cases l <;> rfl); simp only [hem_]; have h_ : (!((((rd_T71 l0_2 x3_2).f3).toList == ([] : List UInt8)) == (((rd_T71 l0_2 x3_2).f2) == 0))) = true := c38b0; generalize ((((rd_T71 l0_2 x3_2).f3).toList == ([] : List UInt8)) == (((rd_T71 l0_2 x3_2).f2) == 0)) = q_ at h_ ⊢; cases q_ <;> first | rfl | cases h_
                 (try (have c38b1 : decide ((((rd_T71 l0_2 x3_2).f3).toList == ([] : List UInt8)) = (((rd_T71 l0_2 x3_2).f2) == 0)) = false := by simpa using c38))
                 (try (have c38b2 : ((((rd_T71 l0_2 x3_2).f3).toList == ([] : List UInt8)) == (((rd_T71 l0_2 x3_2).f2) == 0)) = false := by simpa using c38))
                 (try (have c38b3 : ¬ ((((rd_T71 l0_2 x3_2).f3).toList == ([] : List UInt8)) = (((rd_T71 l0_2 x3_2).f2) == 0)) := by simpa using c38))
                 clear c38
                 obtain rfl := Option.some.inj H
                 have hcz39_0 := bcq_5 BK162.out 0
                 have hcz39_1 := bcq_5 BK162.out 1
                 have hcz39_2 := bcq_5 BK162.out 2
                 have hfz39_0 := blk_frozen BK162.out 0
                 have hfz39_1 := blk_frozen BK162.out 1
                 have hfz39_2 := blk_frozen BK162.out 2
                 have p165 : 0 ≤ (x3_2 : Int) := of_decide_eq_true zb3_5
                 have q165 : x3_2 < (l0_2.length : Int) := of_decide_eq_true zb3_5
                 obtain ⟨ad165, e165, hx165_0, hx165_1, hx165_2, hx165_3⟩ := at_T71 HR0_2.out x3_2 p165 q165
                 cases e165
                 replace hx165_0 := (HB.out.cell (World.block_lt_of_cell? w _ hx165_0)).trans hx165_0
                 replace hx165_1 := (HB.out.cell (World.block_lt_of_cell? w _ hx165_1)).trans hx165_1
                 replace hx165_2 := (HB.out.cell (World.block_lt_of_cell? w _ hx165_2)).trans hx165_2
                 replace hx165_3 := (HB.out.cell (World.block_lt_of_cell? w _ hx165_3)).trans hx165_3
                 replace p165 := eq_true p165
                 replace q165 := eq_true q165
                 try go_wp2_with (first | ((with_reducible refine gate_dst (N := 4) rfl ?_); (try (refine gate_guard (by rfl) ?_; dsimp only)); refine box_event ?hg (N := 4) ?hd (cs := #[.string (⟨#[]⟩ : ByteArray), .int .i64 0, .int .i64 0, .string (⟨#[]⟩ : ByteArray)]) (t := 71) ?hr ?_; (case hd => rfl); (case hg => rfl); (case hr => first | (go_simp; done) | (go_simp; rfl)); intro gb166 hg w40 hbox hb; have n0_ := Aside0.mk (blk_below (g := gb162) (o := .cells #[.string a0_0, .int .i64 a0_1, .slice (some ad165) l0_2.length c0_2] 40 (0, 0)) zb4_5 hb); have n1_ := Aside0.mk (below_step zb5_5 hb); have n2_ := Aside0.mk (hbox); have n3_ := Aside0.mk ((zb6_5 : w.heap.size ≤ gb166)); have n4_ := Aside0.mk ((zb6_5 : w.heap.size ≤ gb166)); have n5_ := Aside0.mk ((zb7_5 : gb162 ≠ gb166)); have n6_ := Aside0.mk ((zb8_5 : gb166 ≠ gb162)); clear BK162; clear HB; have BK162 := n0_; have HB := n1_; have BK166 := n2_; have GW166 := n3_; have GE166 := n4_; have NB162_166 := n5_; have NB166_162 := n6_; clear n0_ n1_ n2_ n3_ n4_ n5_ n6_; clear hb hbox hg; have hnb41 := NB166_162.out; have hnc41 := NB162_166.out; have hcz42_0 := bcq_5 BK166.out 0; have hcz42_1 := bcq_5 BK166.out 1; have hcz42_2 := bcq_5 BK166.out 2; have hcz42_3 := bcq_5 BK166.out 3; have hfz42_0 := blk_frozen BK166.out 0; have hfz42_1 := blk_frozen BK166.out 1; have hfz42_2 := blk_frozen BK166.out 2; have hfz42_3 := blk_frozen BK166.out 3))
                 have n0_ : Aside0 (((((w40.setCell ⟨gb166, 0, none⟩ (.string ((rd_T71 l0_2 x3_2).f0))).setCell ⟨gb166, 1, none⟩ (.int .i64 ((rd_T71 l0_2 x3_2).f1))).setCell ⟨gb166, 2, none⟩ (.int .i64 ((rd_T71 l0_2 x3_2).f2))).setCell ⟨gb166, 3, none⟩ (.string ((rd_T71 l0_2 x3_2).f3))).heap[gb162]? = some (.cells #[.string a0_0, .int .i64 a0_1, .slice (some ad165) l0_2.length c0_2] 40 (0, 0))) := ⟨by (with_reducible repeat (first | refine blk_drewN ?_ _ | refine blk_drew ?_ | refine blk_alloc ?_ _)); refine blk_far ?_ NB162_166.out _; (with_reducible repeat (first | refine blk_drewN ?_ _ | refine blk_drew ?_ | refine blk_alloc ?_ _)); refine blk_far ?_ NB162_166.out _; (with_reducible repeat (first | refine blk_drewN ?_ _ | refine blk_drew ?_ | refine blk_alloc ?_ _)); refine blk_far ?_ NB162_166.out _; (with_reducible repeat (first | refine blk_drewN ?_ _ | refine blk_drew ?_ | refine blk_alloc ?_ _)); refine blk_far ?_ NB162_166.out _; (with_reducible repeat (first | refine blk_drewN ?_ _ | refine blk_drew ?_ | refine blk_alloc ?_ _)); exact BK162.out⟩
                 have n1_ : Aside0 (((((w40.setCell ⟨gb166, 0, none⟩ (.string ((rd_T71 l0_2 x3_2).f0))).setCell ⟨gb166, 1, none⟩ (.int .i64 ((rd_T71 l0_2 x3_2).f1))).setCell ⟨gb166, 2, none⟩ (.int .i64 ((rd_T71 l0_2 x3_2).f2))).setCell ⟨gb166, 3, none⟩ (.string ((rd_T71 l0_2 x3_2).f3))).heap[gb166]? = some (.cells #[.string ((rd_T71 l0_2 x3_2).f0), .int .i64 ((rd_T71 l0_2 x3_2).f1), .int .i64 ((rd_T71 l0_2 x3_2).f2), .string ((rd_T71 l0_2 x3_2).f3)] 71 (0, 0))) := ⟨by (with_reducible repeat (first | refine blk_drewN ?_ _ | refine blk_drew ?_ | refine blk_alloc ?_ _)); refine blk_put (cs := #[.string ((rd_T71 l0_2 x3_2).f0), .int .i64 ((rd_T71 l0_2 x3_2).f1), .int .i64 ((rd_T71 l0_2 x3_2).f2), .string (⟨#[]⟩ : ByteArray)]) ?_ 3 _ rfl; (with_reducible repeat (first | refine blk_drewN ?_ _ | refine blk_drew ?_ | refine blk_alloc ?_ _)); refine blk_put (cs := #[.string ((rd_T71 l0_2 x3_2).f0), .int .i64 ((rd_T71 l0_2 x3_2).f1), .int .i64 0, .string (⟨#[]⟩ : ByteArray)]) ?_ 2 _ rfl; (with_reducible repeat (first | refine blk_drewN ?_ _ | refine blk_drew ?_ | refine blk_alloc ?_ _)); refine blk_put (cs := #[.string ((rd_T71 l0_2 x3_2).f0), .int .i64 0, .int .i64 0, .string (⟨#[]⟩ : ByteArray)]) ?_ 1 _ rfl; (with_reducible repeat (first | refine blk_drewN ?_ _ | refine blk_drew ?_ | refine blk_alloc ?_ _)); refine blk_put (cs := #[.string (⟨#[]⟩ : ByteArray), .int .i64 0, .int .i64 0, .string (⟨#[]⟩ : ByteArray)]) ?_ 0 _ rfl; (with_reducible repeat (first | refine blk_drewN ?_ _ | refine blk_drew ?_ | refine blk_alloc ?_ _)); exact BK166.out⟩
                 have n2_ : Aside0 (Below w.heap.size w ((((w40.setCell ⟨gb166, 0, none⟩ (.string ((rd_T71 l0_2 x3_2).f0))).setCell ⟨gb166, 1, none⟩ (.int .i64 ((rd_T71 l0_2 x3_2).f1))).setCell ⟨gb166, 2, none⟩ (.int .i64 ((rd_T71 l0_2 x3_2).f2))).setCell ⟨gb166, 3, none⟩ (.string ((rd_T71 l0_2 x3_2).f3)))) := ⟨by repeat (first | (with_reducible first | exact HB.out | apply below_alloc | apply pw_below_drewN | apply below_drew1 | refine below_set ?_ GE162.out | refine below_set ?_ GE166.out) | exact HB.out)⟩
                 (try clear BK162)
                 (try clear BK166)
                 (try clear HB)
                 generalize ((((w40.setCell ⟨gb166, 0, none⟩ (.string ((rd_T71 l0_2 x3_2).f0))).setCell ⟨gb166, 1, none⟩ (.int .i64 ((rd_T71 l0_2 x3_2).f1))).setCell ⟨gb166, 2, none⟩ (.int .i64 ((rd_T71 l0_2 x3_2).f2))).setCell ⟨gb166, 3, none⟩ (.string ((rd_T71 l0_2 x3_2).f3))) = w43 at n0_ n1_ n2_ ⊢
                 have BK162 := n0_
                 have BK166 := n1_
                 have HB := n2_
                 clear n0_ n1_ n2_
                 have n0_ := Aside0.mk (blk_drew BK162.out)
                 have n1_ := Aside0.mk (blk_drew BK166.out)
                 have n2_ := Aside0.mk (below_drew1 HB.out)
                 clear BK162
                 clear BK166
                 clear HB
                 have BK162 := n0_
                 have BK166 := n1_
                 have HB := n2_
                 clear n0_ n1_ n2_
                 have p169 : 0 ≤ ((ji19) : Int) := of_decide_eq_true zb3_5
                 have q169 : (ji19) < (l0_2.length : Int) := of_decide_eq_true zb3_5
                 obtain ⟨ad169, e169, hx169_0, hx169_1, hx169_2, hx169_3⟩ := at_T71 HR0_2.out (ji19) p169 q169
                 have hw169_3 := hx169_3
                 have hw169_2 := hx169_2
                 have hw169_1 := hx169_1
                 have hw169_0 := hx169_0
                 obtain rfl : ad165 = ad169 := (by injection e169)
                 replace hx169_0 := (HB.out.cell (World.block_lt_of_cell? w _ hx169_0)).trans hx169_0
                 replace hx169_1 := (HB.out.cell (World.block_lt_of_cell? w _ hx169_1)).trans hx169_1
                 replace hx169_2 := (HB.out.cell (World.block_lt_of_cell? w _ hx169_2)).trans hx169_2
                 replace hx169_3 := (HB.out.cell (World.block_lt_of_cell? w _ hx169_3)).trans hx169_3
                 replace p169 := eq_true p169
                 replace q169 := eq_true q169
                 refine start_ (n := 50) (S := fun w' => w'.cell? ⟨gb166, 0, none⟩ = some (.string ((rd_T71 l0_2 x3_2).f0)) ∧ w'.cell? ⟨gb166, 1, none⟩ = some (.int .i64 ((rd_T71 l0_2 x3_2).f1)) ∧ w'.cell? ⟨gb166, 2, none⟩ = some (.int .i64 ((rd_T71 l0_2 x3_2).f2)) ∧ w'.cell? ⟨gb166, 3, none⟩ = some (.string ((rd_T71 l0_2 x3_2).f3)) ∧ w'.cell? ⟨gb162, 0, none⟩ = some (.string a0_0) ∧ w'.cell? ⟨gb162, 1, none⟩ = some (.int .i64 a0_1) ∧ w'.cell? ⟨gb162, 2, none⟩ = some (.slice (some ad165) l0_2.length c0_2) ∧ w'.cell? (ad165.add (((ji19)).toNat * 4)) = some (.string ((rd_T71 l0_2 (ji19)).f0)) ∧ w'.cell? ⟨(ad165.add (((ji19)).toNat * 4)).block, (ad165.add (((ji19)).toNat * 4)).off + 1, none⟩ = some (.int .i64 ((rd_T71 l0_2 (ji19)).f1)) ∧ w'.cell? ⟨(ad165.add (((ji19)).toNat * 4)).block, (ad165.add (((ji19)).toNat * 4)).off + 2, none⟩ = some (.int .i64 ((rd_T71 l0_2 (ji19)).f2)) ∧ w'.cell? ⟨(ad165.add (((ji19)).toNat * 4)).block, (ad165.add (((ji19)).toNat * 4)).off + 3, none⟩ = some (.string ((rd_T71 l0_2 (ji19)).f3))) (ds := []) zm0 (by kernel_rfl) rfl rfl ⟨(blk_cell BK166.out 0).trans rfl, (blk_cell BK166.out 1).trans rfl, (blk_cell BK166.out 2).trans rfl, (blk_cell BK166.out 3).trans rfl, (blk_cell BK162.out 0).trans rfl, (blk_cell BK162.out 1).trans rfl, (blk_cell BK162.out 2).trans rfl, ((HB.out.cell (World.block_lt_of_cell? w _ hw169_0)).trans hw169_0), ((HB.out.cell (World.block_lt_of_cell? w _ hw169_1)).trans hw169_1), ((HB.out.cell (World.block_lt_of_cell? w _ hw169_2)).trans hw169_2), ((HB.out.cell (World.block_lt_of_cell? w _ hw169_3)).trans hw169_3)⟩ (fun hHeld => ?_); refine with_tabW spec_DialbackRight.tab7 spec_DialbackRight.bits7 (fun HT_ HW_ => ?_)
                 generalize w43.drew = w44 at BK162 BK166 HB hx169_0 hx169_1 hx169_2 hx169_3 hHeld ⊢
                 refine zp 0 (some 33) zm1 HT_ ?_
                 refine take_ (i := 1) (N := some 34) (v := ?_) (a' := ?_) zm2 rfl rfl (take_ofW HT_.out HW_.out (by kernel_rfl)) (fun _ _ _ h => h) (Or.inl ⟨by rfl, ?_⟩) hHeld ?_ ?_
                 rotate_left
                 ·
                  rintro w' ⟨s0, s1, s2, s3, s4, s5, s6, s7, s8, s9, s10⟩
                  go_simp
                  with_reducible rfl
                 rotate_left
                 ·
                  simp only [Act.put, List.setIfInBounds_toArray, List.set_cons_zero, List.set_cons_succ, i64_w, i32_w]
                  rfl
                 refine one_ (i := 2) (N := some 35) zm3 rfl rfl (one_of HT_.out (by kernel_rfl)) (by decide) (fun K hK => ?_)
                 refine goes_ Tryd.func46 (by kernel_rfl) rfl #[.string ((rd_T71 l0_2 x3_2).f0)] (by rfl) rfl rfl zb1_5 ?_
                 with_reducible refine (spec_l05Domain.calls k2 ((rd_T71 l0_2 x3_2).f0) true _ A14.out).mono ?_
                 rintro e w' ⟨rfl, ⟨nd, rfl⟩⟩
                 refine ⟨_, rfl, ?_⟩
                 refine hK.out _ _ ⟨(blk_cell BK166.out 0).trans rfl, (blk_cell BK166.out 1).trans rfl, (blk_cell BK166.out 2).trans rfl, (blk_cell BK166.out 3).trans rfl, (blk_cell BK162.out 0).trans rfl, (blk_cell BK162.out 1).trans rfl, (blk_cell BK162.out 2).trans rfl, ((HB.out.cell (World.block_lt_of_cell? w _ hw169_0)).trans hw169_0), ((HB.out.cell (World.block_lt_of_cell? w _ hw169_1)).trans hw169_1), ((HB.out.cell (World.block_lt_of_cell? w _ hw169_2)).trans hw169_2), ((HB.out.cell (World.block_lt_of_cell? w _ hw169_3)).trans hw169_3)⟩ (fun hHeld => ?_)
                 clear hK K
                 refine norm_ (a' := ?_) ?_ ?_
                 rotate_left
                 ·
                  show Act.put _ (some 35) _ = _
                  simp only [Act.put, List.setIfInBounds_toArray, List.set_cons_zero, List.set_cons_succ, i64_w, i32_w]
                  rfl
                 refine zp 3 (some 36) zm4 HT_ ?_
                 refine zp 4 (some 37) zm5 HT_ ?_
                 refine zp 5 (some 38) zm6 HT_ ?_
                 refine zp 7 (some 40) zm7 HT_ ?_
                 refine take_ (i := 6) (N := some 39) (v := ?_) (a' := ?_) zm8 rfl rfl (take_ofW HT_.out HW_.out (by kernel_rfl)) (fun _ _ _ h => h) (Or.inl ⟨by rfl, ?_⟩) hHeld ?_ ?_
                 rotate_left
                 ·
                  rintro w' ⟨s0, s1, s2, s3, s4, s5, s6, s7, s8, s9, s10⟩
                  go_simp
                  with_reducible rfl
                 rotate_left
                 ·
                  simp only [Act.put, List.setIfInBounds_toArray, List.set_cons_zero, List.set_cons_succ, i64_w, i32_w]
                  rfl
                 refine take_ (i := 8) (N := some 41) (v := ?_) (a' := ?_) zm9 rfl rfl (take_ofW HT_.out HW_.out (by kernel_rfl)) (fun _ _ _ h => h) (Or.inl ⟨by rfl, ?_⟩) hHeld ?_ ?_
                 rotate_left
                 ·
                  rintro w' ⟨s0, s1, s2, s3, s4, s5, s6, s7, s8, s9, s10⟩
                  go_simp
                  with_reducible rfl
                 rotate_left
                 ·
                  simp only [Act.put, List.setIfInBounds_toArray, List.set_cons_zero, List.set_cons_succ, i64_w, i32_w]
                  rfl
                 refine zp 9 (some 42) zm10 HT_ ?_
                 refine one_ (i := 10) (N := some 43) zm11 rfl rfl (one_of HT_.out (by kernel_rfl)) (by decide) (fun K hK => ?_)
                 refine goes_ Tryd.func47 (by kernel_rfl) rfl #[.int .i64 ((rd_T71 l0_2 x3_2).f1), .int .i64 1, .int .i64 (wrap64 (a0_1 - 1))] (by rfl) rfl rfl zb1_5 ?_
                 with_reducible refine (spec_l03Is.calls ((rd_T71 l0_2 x3_2).f1) 1 (wrap64 (a0_1 - 1)) true _ A16.out).mono ?_
                 rintro e w' ⟨rfl, ⟨nd, rfl⟩⟩
                 refine ⟨_, rfl, ?_⟩
                 refine hK.out _ _ ⟨(blk_cell BK166.out 0).trans rfl, (blk_cell BK166.out 1).trans rfl, (blk_cell BK166.out 2).trans rfl, (blk_cell BK166.out 3).trans rfl, (blk_cell BK162.out 0).trans rfl, (blk_cell BK162.out 1).trans rfl, (blk_cell BK162.out 2).trans rfl, ((HB.out.cell (World.block_lt_of_cell? w _ hw169_0)).trans hw169_0), ((HB.out.cell (World.block_lt_of_cell? w _ hw169_1)).trans hw169_1), ((HB.out.cell (World.block_lt_of_cell? w _ hw169_2)).trans hw169_2), ((HB.out.cell (World.block_lt_of_cell? w _ hw169_3)).trans hw169_3)⟩ (fun hHeld => ?_)
                 clear hK K
                 refine norm_ (a' := ?_) ?_ ?_
                 rotate_left
                 ·
                  show Act.put _ (some 43) _ = _
                  simp only [Act.put, List.setIfInBounds_toArray, List.set_cons_zero, List.set_cons_succ, i64_w, i32_w]
                  rfl
                 refine zp 11 (some 44) zm12 HT_ ?_
                 refine zp 12 (some 45) zm13 HT_ ?_
                 refine zp 13 (some 46) zm14 HT_ ?_
                 refine zp 14 (some 47) zm15 HT_ ?_
                 refine zp 15 (some 48) zm16 HT_ ?_
                 refine zp 16 (some 49) zm17 HT_ ?_
                 refine zp 17 (some 50) zm18 HT_ ?_
                 refine zp 19 (some 52) zm19 HT_ ?_
                 refine zp 20 (some 53) zm20 HT_ ?_
                 refine zp 24 (some 57) zm21 HT_ ?_
                 refine take_ (i := 18) (N := some 51) (v := ?_) (a' := ?_) zm22 rfl rfl (take_ofW HT_.out HW_.out (by kernel_rfl)) (fun _ _ _ h => h) (Or.inl ⟨by rfl, ?_⟩) hHeld ?_ ?_
                 rotate_left
                 ·
                  rintro w' ⟨s0, s1, s2, s3, s4, s5, s6, s7, s8, s9, s10⟩
                  go_simp
                  with_reducible rfl
                 rotate_left
                 ·
                  simp only [Act.put, List.setIfInBounds_toArray, List.set_cons_zero, List.set_cons_succ, i64_w, i32_w]
                  rfl
                 refine zp 21 (some 54) zm23 HT_ ?_
                 refine zp 22 (some 55) zm24 HT_ ?_
                 refine take_ (i := 23) (N := some 56) (v := ?_) (a' := ?_) zm25 rfl rfl (take_ofW HT_.out HW_.out (by kernel_rfl)) (fun _ _ _ h => h) (Or.inl ⟨by rfl, ?_⟩) hHeld ?_ ?_
                 rotate_left
                 ·
                  rintro w' ⟨s0, s1, s2, s3, s4, s5, s6, s7, s8, s9, s10⟩
                  go_simp
                  with_reducible rfl
                 rotate_left
                 ·
                  simp only [Act.put, List.setIfInBounds_toArray, List.set_cons_zero, List.set_cons_succ, i64_w, i32_w]
                  rfl
                 refine take_ (i := 25) (N := some 58) (v := ?_) (a' := ?_) zm26 rfl rfl (take_ofW HT_.out HW_.out (by kernel_rfl)) (fun _ _ _ h => h) (Or.inl ⟨by rfl, ?_⟩) hHeld ?_ ?_
                 rotate_left
                 ·
                  rintro w' ⟨s0, s1, s2, s3, s4, s5, s6, s7, s8, s9, s10⟩
                  go_simp
                  with_reducible rfl
                 rotate_left
                 ·
                  simp only [Act.put, List.setIfInBounds_toArray, List.set_cons_zero, List.set_cons_succ, i64_w, i32_w]
                  rfl
                 refine zp 26 (some 59) zm27 HT_ ?_
                 refine zp 27 (some 60) zm28 HT_ ?_
                 refine zp 28 (some 61) zm29 HT_ ?_
                 refine zp 29 (some 62) zm30 HT_ ?_
                 refine zp 30 (some 63) zm31 HT_ ?_
                 refine take_ (i := 31) (N := some 64) (v := ?_) (a' := ?_) zm32 rfl rfl (take_ofW HT_.out HW_.out (by kernel_rfl)) (fun _ _ _ h => h) (Or.inl ⟨by rfl, ?_⟩) hHeld ?_ ?_
                 rotate_left
                 ·
                  rintro w' ⟨s0, s1, s2, s3, s4, s5, s6, s7, s8, s9, s10⟩
                  go_simp
                  with_reducible rfl
                 rotate_left
                 ·
                  simp only [Act.put, List.setIfInBounds_toArray, List.set_cons_zero, List.set_cons_succ, i64_w, i32_w]
                  rfl
                 refine one_ (i := 32) (N := some 65) zm33 rfl rfl (one_of HT_.out (by kernel_rfl)) (by decide) (fun K hK => ?_)
                 refine goes_ Tryd.func47 (by kernel_rfl) rfl #[.int .i64 ((rd_T71 l0_2 x3_2).f2), .int .i64 0, .int .i64 3] (by rfl) rfl rfl zb1_5 ?_
                 with_reducible refine (spec_l03Is.calls ((rd_T71 l0_2 x3_2).f2) 0 3 true _ A29.out).mono ?_
                 rintro e w' ⟨rfl, ⟨nd, rfl⟩⟩
                 refine ⟨_, rfl, ?_⟩
                 refine hK.out _ _ ⟨(blk_cell BK166.out 0).trans rfl, (blk_cell BK166.out 1).trans rfl, (blk_cell BK166.out 2).trans rfl, (blk_cell BK166.out 3).trans rfl, (blk_cell BK162.out 0).trans rfl, (blk_cell BK162.out 1).trans rfl, (blk_cell BK162.out 2).trans rfl, ((HB.out.cell (World.block_lt_of_cell? w _ hw169_0)).trans hw169_0), ((HB.out.cell (World.block_lt_of_cell? w _ hw169_1)).trans hw169_1), ((HB.out.cell (World.block_lt_of_cell? w _ hw169_2)).trans hw169_2), ((HB.out.cell (World.block_lt_of_cell? w _ hw169_3)).trans hw169_3)⟩ (fun hHeld => ?_)
                 clear hK K
                 refine norm_ (a' := ?_) ?_ ?_
                 rotate_left
                 ·
                  show Act.put _ (some 65) _ = _
                  simp only [Act.put, List.setIfInBounds_toArray, List.set_cons_zero, List.set_cons_succ, i64_w, i32_w]
                  rfl
                 refine zp 33 (some 66) zm34 HT_ ?_
                 refine zp 34 (some 67) zm35 HT_ ?_
                 refine zp 35 (some 68) zm36 HT_ ?_
                 refine zp 36 (some 69) zm37 HT_ ?_
                 refine take_ (i := 37) (N := some 70) (v := ?_) (a' := ?_) zm38 rfl rfl (take_ofW HT_.out HW_.out (by kernel_rfl)) (fun _ _ _ h => h) (Or.inl ⟨by rfl, ?_⟩) hHeld ?_ ?_
                 rotate_left
                 ·
                  rintro w' ⟨s0, s1, s2, s3, s4, s5, s6, s7, s8, s9, s10⟩
                  go_simp
                  with_reducible rfl
                 rotate_left
                 ·
                  simp only [Act.put, List.setIfInBounds_toArray, List.set_cons_zero, List.set_cons_succ, i64_w, i32_w]
                  rfl
                 refine zp 38 (some 71) zm39 HT_ ?_
                 refine zp 39 (some 72) zm40 HT_ ?_
                 refine zp 40 (some 73) zm41 HT_ ?_
                 refine zp 41 (some 74) zm42 HT_ ?_
                 refine zp 42 (some 75) zm43 HT_ ?_
                 refine zp 45 (some 78) zm51 HT_ ?_
                 refine take_ (i := 43) (N := some 76) (v := ?_) (a' := ?_) zm52 rfl rfl (take_ofW HT_.out HW_.out (by kernel_rfl)) (fun _ _ _ h => h) (Or.inl ⟨by rfl, ?_⟩) hHeld ?_ ?_
                 rotate_left
                 ·
                  rintro w' ⟨s0, s1, s2, s3, s4, s5, s6, s7, s8, s9, s10⟩
                  go_simp
                  with_reducible rfl
                 rotate_left
                 ·
                  simp only [Act.put, List.setIfInBounds_toArray, List.set_cons_zero, List.set_cons_succ, i64_w, i32_w]
                  rfl
                 refine zp 44 (some 77) zm46 HT_ ?_
                 refine take_ (i := 46) (N := some 79) (v := ?_) (a' := ?_) zm47 rfl rfl (take_ofW HT_.out HW_.out (by kernel_rfl)) (fun _ _ _ h => h) (Or.inl ⟨by rfl, ?_⟩) hHeld ?_ ?_
                 rotate_left
                 ·
                  rintro w' ⟨s0, s1, s2, s3, s4, s5, s6, s7, s8, s9, s10⟩
                  go_simp
                  with_reducible rfl
                 rotate_left
                 ·
                  simp only [Act.put, List.setIfInBounds_toArray, List.set_cons_zero, List.set_cons_succ, i64_w, i32_w]
                  rfl
                 refine zp 47 (some 80) zm48 HT_ ?_
                 refine zp 48 (some 81) zm49 HT_ ?_
                 refine zp 49 (some 82) zm50 HT_ ?_
                 refine done_ (done_of HT_.out (by kernel_rfl)) ?_
                 try go_wp2
                 go_ret
                 exact ⟨by first | rfl | (simp [errW_none, errW_some] <;> rfl) | (simp only [← hji19]; first | rfl | (simp [errW_none, errW_some] <;> rfl)) | (simp [*, errW_none, errW_some] <;> rfl), by repeat (first | (with_reducible first | exact HB.out | apply below_alloc | apply pw_below_drewN | apply below_drew1 | refine below_set ?_ GE162.out | refine below_set ?_ GE166.out) | exact HB.out)⟩
                ·
                 rw [if_neg c38] at H
                 have c38b0 : ((((rd_T71 l0_2 x3_2).f3).toList == ([] : List UInt8)) != (((rd_T71 l0_2 x3_2).f2) == 0)) = false := by simpa using c38
                 try have c38b9 : (((rd_T71 l0_2 x3_2).f3).toList.isEmpty == (((rd_T71 l0_2 x3_2).f2) == 0)) = true := by have hem_ : ∀ l : List UInt8, l.isEmpty = (l == []) := (fun l => by cases l <;> rfl); simp only [hem_]; have h_ : (!((((rd_T71 l0_2 x3_2).f3).toList == ([] : List UInt8)) == (((rd_T71 l0_2 x3_2).f2) == 0))) = false := c38b0; generalize ((((rd_T71 l0_2 x3_2).f3).toList == ([] : List UInt8)) == (((rd_T71 l0_2 x3_2).f2) == 0)) = q_ at h_ ⊢; cases q_ <;> first | rfl | cases h_
                 (try (have c38b1 : decide ((((rd_T71 l0_2 x3_2).f3).toList == ([] : List UInt8)) = (((rd_T71 l0_2 x3_2).f2) == 0)) = true := by simpa using c38))
                 (try (have c38b2 : ((((rd_T71 l0_2 x3_2).f3).toList == ([] : List UInt8)) == (((rd_T71 l0_2 x3_2).f2) == 0)) = true := by simpa using c38))
                 clear c38
                 have H' := Aside0.mk H
                 clear H
                 have hcz45_0 := bcq_5 BK162.out 0
                 have hcz45_1 := bcq_5 BK162.out 1
                 have hcz45_2 := bcq_5 BK162.out 2
                 have hfz45_0 := blk_frozen BK162.out 0
                 have hfz45_1 := blk_frozen BK162.out 1
                 have hfz45_2 := blk_frozen BK162.out 2
                 have p165 : 0 ≤ (x3_2 : Int) := of_decide_eq_true zb3_5
                 have q165 : x3_2 < (l0_2.length : Int) := of_decide_eq_true zb3_5
                 obtain ⟨ad165, e165, hx165_0, hx165_1, hx165_2, hx165_3⟩ := at_T71 HR0_2.out x3_2 p165 q165
                 cases e165
                 replace hx165_0 := (HB.out.cell (World.block_lt_of_cell? w _ hx165_0)).trans hx165_0
                 replace hx165_1 := (HB.out.cell (World.block_lt_of_cell? w _ hx165_1)).trans hx165_1
                 replace hx165_2 := (HB.out.cell (World.block_lt_of_cell? w _ hx165_2)).trans hx165_2
                 replace hx165_3 := (HB.out.cell (World.block_lt_of_cell? w _ hx165_3)).trans hx165_3
                 replace p165 := eq_true p165
                 replace q165 := eq_true q165
                 try go_wp2_with (first | ((with_reducible refine gate_dst (N := 4) rfl ?_); (try (refine gate_guard (by rfl) ?_; dsimp only)); refine box_event ?hg (N := 4) ?hd (cs := #[.string (⟨#[]⟩ : ByteArray), .int .i64 0, .int .i64 0, .string (⟨#[]⟩ : ByteArray)]) (t := 71) ?hr ?_; (case hd => rfl); (case hg => rfl); (case hr => first | (go_simp; done) | (go_simp; rfl)); intro gb166 hg w46 hbox hb; have n0_ := Aside0.mk (blk_below (g := gb162) (o := .cells #[.string a0_0, .int .i64 a0_1, .slice (some ad165) l0_2.length c0_2] 40 (0, 0)) zb4_5 hb); have n1_ := Aside0.mk (below_step zb5_5 hb); have n2_ := Aside0.mk (hbox); have n3_ := Aside0.mk ((zb6_5 : w.heap.size ≤ gb166)); have n4_ := Aside0.mk ((zb6_5 : w.heap.size ≤ gb166)); have n5_ := Aside0.mk ((zb7_5 : gb162 ≠ gb166)); have n6_ := Aside0.mk ((zb8_5 : gb166 ≠ gb162)); clear BK162; clear HB; have BK162 := n0_; have HB := n1_; have BK166 := n2_; have GW166 := n3_; have GE166 := n4_; have NB162_166 := n5_; have NB166_162 := n6_; clear n0_ n1_ n2_ n3_ n4_ n5_ n6_; clear hb hbox hg; have hnb47 := NB166_162.out; have hnc47 := NB162_166.out; have hcz48_0 := bcq_5 BK166.out 0; have hcz48_1 := bcq_5 BK166.out 1; have hcz48_2 := bcq_5 BK166.out 2; have hcz48_3 := bcq_5 BK166.out 3; have hfz48_0 := blk_frozen BK166.out 0; have hfz48_1 := blk_frozen BK166.out 1; have hfz48_2 := blk_frozen BK166.out 2; have hfz48_3 := blk_frozen BK166.out 3))
                 have n0_ : Aside0 (((((w46.setCell ⟨gb166, 0, none⟩ (.string ((rd_T71 l0_2 x3_2).f0))).setCell ⟨gb166, 1, none⟩ (.int .i64 ((rd_T71 l0_2 x3_2).f1))).setCell ⟨gb166, 2, none⟩ (.int .i64 ((rd_T71 l0_2 x3_2).f2))).setCell ⟨gb166, 3, none⟩ (.string ((rd_T71 l0_2 x3_2).f3))).heap[gb162]? = some (.cells #[.string a0_0, .int .i64 a0_1, .slice (some ad165) l0_2.length c0_2] 40 (0, 0))) := ⟨by (with_reducible repeat (first | refine blk_drewN ?_ _ | refine blk_drew ?_ | refine blk_alloc ?_ _)); refine blk_far ?_ NB162_166.out _; (with_reducible repeat (first | refine blk_drewN ?_ _ | refine blk_drew ?_ | refine blk_alloc ?_ _)); refine blk_far ?_ NB162_166.out _; (with_reducible repeat (first | refine blk_drewN ?_ _ | refine blk_drew ?_ | refine blk_alloc ?_ _)); refine blk_far ?_ NB162_166.out _; (with_reducible repeat (first | refine blk_drewN ?_ _ | refine blk_drew ?_ | refine blk_alloc ?_ _)); refine blk_far ?_ NB162_166.out _; (with_reducible repeat (first | refine blk_drewN ?_ _ | refine blk_drew ?_ | refine blk_alloc ?_ _)); exact BK162.out⟩
                 have n1_ : Aside0 (((((w46.setCell ⟨gb166, 0, none⟩ (.string ((rd_T71 l0_2 x3_2).f0))).setCell ⟨gb166, 1, none⟩ (.int .i64 ((rd_T71 l0_2 x3_2).f1))).setCell ⟨gb166, 2, none⟩ (.int .i64 ((rd_T71 l0_2 x3_2).f2))).setCell ⟨gb166, 3, none⟩ (.string ((rd_T71 l0_2 x3_2).f3))).heap[gb166]? = some (.cells #[.string ((rd_T71 l0_2 x3_2).f0), .int .i64 ((rd_T71 l0_2 x3_2).f1), .int .i64 ((rd_T71 l0_2 x3_2).f2), .string ((rd_T71 l0_2 x3_2).f3)] 71 (0, 0))) := ⟨by (with_reducible repeat (first | refine blk_drewN ?_ _ | refine blk_drew ?_ | refine blk_alloc ?_ _)); refine blk_put (cs := #[.string ((rd_T71 l0_2 x3_2).f0), .int .i64 ((rd_T71 l0_2 x3_2).f1), .int .i64 ((rd_T71 l0_2 x3_2).f2), .string (⟨#[]⟩ : ByteArray)]) ?_ 3 _ rfl; (with_reducible repeat (first | refine blk_drewN ?_ _ | refine blk_drew ?_ | refine blk_alloc ?_ _)); refine blk_put (cs := #[.string ((rd_T71 l0_2 x3_2).f0), .int .i64 ((rd_T71 l0_2 x3_2).f1), .int .i64 0, .string (⟨#[]⟩ : ByteArray)]) ?_ 2 _ rfl; (with_reducible repeat (first | refine blk_drewN ?_ _ | refine blk_drew ?_ | refine blk_alloc ?_ _)); refine blk_put (cs := #[.string ((rd_T71 l0_2 x3_2).f0), .int .i64 0, .int .i64 0, .string (⟨#[]⟩ : ByteArray)]) ?_ 1 _ rfl; (with_reducible repeat (first | refine blk_drewN ?_ _ | refine blk_drew ?_ | refine blk_alloc ?_ _)); refine blk_put (cs := #[.string (⟨#[]⟩ : ByteArray), .int .i64 0, .int .i64 0, .string (⟨#[]⟩ : ByteArray)]) ?_ 0 _ rfl; (with_reducible repeat (first | refine blk_drewN ?_ _ | refine blk_drew ?_ | refine blk_alloc ?_ _)); exact BK166.out⟩
                 have n2_ : Aside0 (Below w.heap.size w ((((w46.setCell ⟨gb166, 0, none⟩ (.string ((rd_T71 l0_2 x3_2).f0))).setCell ⟨gb166, 1, none⟩ (.int .i64 ((rd_T71 l0_2 x3_2).f1))).setCell ⟨gb166, 2, none⟩ (.int .i64 ((rd_T71 l0_2 x3_2).f2))).setCell ⟨gb166, 3, none⟩ (.string ((rd_T71 l0_2 x3_2).f3)))) := ⟨by repeat (first | (with_reducible first | exact HB.out | apply below_alloc | apply pw_below_drewN | apply below_drew1 | refine below_set ?_ GE162.out | refine below_set ?_ GE166.out) | exact HB.out)⟩
                 (try clear BK162)
                 (try clear BK166)
                 (try clear HB)
                 generalize ((((w46.setCell ⟨gb166, 0, none⟩ (.string ((rd_T71 l0_2 x3_2).f0))).setCell ⟨gb166, 1, none⟩ (.int .i64 ((rd_T71 l0_2 x3_2).f1))).setCell ⟨gb166, 2, none⟩ (.int .i64 ((rd_T71 l0_2 x3_2).f2))).setCell ⟨gb166, 3, none⟩ (.string ((rd_T71 l0_2 x3_2).f3))) = w49 at n0_ n1_ n2_ ⊢
                 have BK162 := n0_
                 have BK166 := n1_
                 have HB := n2_
                 clear n0_ n1_ n2_
                 have n0_ := Aside0.mk (blk_drew BK162.out)
                 have n1_ := Aside0.mk (blk_drew BK166.out)
                 have n2_ := Aside0.mk (below_drew1 HB.out)
                 clear BK162
                 clear BK166
                 clear HB
                 have BK162 := n0_
                 have BK166 := n1_
                 have HB := n2_
                 clear n0_ n1_ n2_
                 have p169 : 0 ≤ ((ji19) : Int) := of_decide_eq_true zb3_5
                 have q169 : (ji19) < (l0_2.length : Int) := of_decide_eq_true zb3_5
                 obtain ⟨ad169, e169, hx169_0, hx169_1, hx169_2, hx169_3⟩ := at_T71 HR0_2.out (ji19) p169 q169
                 have hw169_3 := hx169_3
                 have hw169_2 := hx169_2
                 have hw169_1 := hx169_1
                 have hw169_0 := hx169_0
                 obtain rfl : ad165 = ad169 := (by injection e169)
                 replace hx169_0 := (HB.out.cell (World.block_lt_of_cell? w _ hx169_0)).trans hx169_0
                 replace hx169_1 := (HB.out.cell (World.block_lt_of_cell? w _ hx169_1)).trans hx169_1
                 replace hx169_2 := (HB.out.cell (World.block_lt_of_cell? w _ hx169_2)).trans hx169_2
                 replace hx169_3 := (HB.out.cell (World.block_lt_of_cell? w _ hx169_3)).trans hx169_3
                 replace p169 := eq_true p169
                 replace q169 := eq_true q169
                 refine start_ (n := 50) (S := fun w' => w'.cell? ⟨gb166, 0, none⟩ = some (.string ((rd_T71 l0_2 x3_2).f0)) ∧ w'.cell? ⟨gb166, 1, none⟩ = some (.int .i64 ((rd_T71 l0_2 x3_2).f1)) ∧ w'.cell? ⟨gb166, 2, none⟩ = some (.int .i64 ((rd_T71 l0_2 x3_2).f2)) ∧ w'.cell? ⟨gb166, 3, none⟩ = some (.string ((rd_T71 l0_2 x3_2).f3)) ∧ w'.cell? ⟨gb162, 0, none⟩ = some (.string a0_0) ∧ w'.cell? ⟨gb162, 1, none⟩ = some (.int .i64 a0_1) ∧ w'.cell? ⟨gb162, 2, none⟩ = some (.slice (some ad165) l0_2.length c0_2) ∧ w'.cell? (ad165.add (((ji19)).toNat * 4)) = some (.string ((rd_T71 l0_2 (ji19)).f0)) ∧ w'.cell? ⟨(ad165.add (((ji19)).toNat * 4)).block, (ad165.add (((ji19)).toNat * 4)).off + 1, none⟩ = some (.int .i64 ((rd_T71 l0_2 (ji19)).f1)) ∧ w'.cell? ⟨(ad165.add (((ji19)).toNat * 4)).block, (ad165.add (((ji19)).toNat * 4)).off + 2, none⟩ = some (.int .i64 ((rd_T71 l0_2 (ji19)).f2)) ∧ w'.cell? ⟨(ad165.add (((ji19)).toNat * 4)).block, (ad165.add (((ji19)).toNat * 4)).off + 3, none⟩ = some (.string ((rd_T71 l0_2 (ji19)).f3))) (ds := []) zm0 (by kernel_rfl) rfl rfl ⟨(blk_cell BK166.out 0).trans rfl, (blk_cell BK166.out 1).trans rfl, (blk_cell BK166.out 2).trans rfl, (blk_cell BK166.out 3).trans rfl, (blk_cell BK162.out 0).trans rfl, (blk_cell BK162.out 1).trans rfl, (blk_cell BK162.out 2).trans rfl, ((HB.out.cell (World.block_lt_of_cell? w _ hw169_0)).trans hw169_0), ((HB.out.cell (World.block_lt_of_cell? w _ hw169_1)).trans hw169_1), ((HB.out.cell (World.block_lt_of_cell? w _ hw169_2)).trans hw169_2), ((HB.out.cell (World.block_lt_of_cell? w _ hw169_3)).trans hw169_3)⟩ (fun hHeld => ?_); refine with_tabW spec_DialbackRight.tab7 spec_DialbackRight.bits7 (fun HT_ HW_ => ?_)
                 generalize w49.drew = w50 at BK162 BK166 HB hx169_0 hx169_1 hx169_2 hx169_3 hHeld ⊢
                 refine zp 0 (some 33) zm1 HT_ ?_
                 refine take_ (i := 1) (N := some 34) (v := ?_) (a' := ?_) zm2 rfl rfl (take_ofW HT_.out HW_.out (by kernel_rfl)) (fun _ _ _ h => h) (Or.inl ⟨by rfl, ?_⟩) hHeld ?_ ?_
                 rotate_left
                 ·
                  rintro w' ⟨s0, s1, s2, s3, s4, s5, s6, s7, s8, s9, s10⟩
                  go_simp
                  with_reducible rfl
                 rotate_left
                 ·
                  simp only [Act.put, List.setIfInBounds_toArray, List.set_cons_zero, List.set_cons_succ, i64_w, i32_w]
                  rfl
                 refine one_ (i := 2) (N := some 35) zm3 rfl rfl (one_of HT_.out (by kernel_rfl)) (by decide) (fun K hK => ?_)
                 refine goes_ Tryd.func46 (by kernel_rfl) rfl #[.string ((rd_T71 l0_2 x3_2).f0)] (by rfl) rfl rfl zb1_5 ?_
                 with_reducible refine (spec_l05Domain.calls k2 ((rd_T71 l0_2 x3_2).f0) true _ A14.out).mono ?_
                 rintro e w' ⟨rfl, ⟨nd, rfl⟩⟩
                 refine ⟨_, rfl, ?_⟩
                 refine hK.out _ _ ⟨(blk_cell BK166.out 0).trans rfl, (blk_cell BK166.out 1).trans rfl, (blk_cell BK166.out 2).trans rfl, (blk_cell BK166.out 3).trans rfl, (blk_cell BK162.out 0).trans rfl, (blk_cell BK162.out 1).trans rfl, (blk_cell BK162.out 2).trans rfl, ((HB.out.cell (World.block_lt_of_cell? w _ hw169_0)).trans hw169_0), ((HB.out.cell (World.block_lt_of_cell? w _ hw169_1)).trans hw169_1), ((HB.out.cell (World.block_lt_of_cell? w _ hw169_2)).trans hw169_2), ((HB.out.cell (World.block_lt_of_cell? w _ hw169_3)).trans hw169_3)⟩ (fun hHeld => ?_)
                 clear hK K
                 refine norm_ (a' := ?_) ?_ ?_
                 rotate_left
                 ·
                  show Act.put _ (some 35) _ = _
                  simp only [Act.put, List.setIfInBounds_toArray, List.set_cons_zero, List.set_cons_succ, i64_w, i32_w]
                  rfl
                 refine zp 3 (some 36) zm4 HT_ ?_
                 refine zp 4 (some 37) zm5 HT_ ?_
                 refine zp 5 (some 38) zm6 HT_ ?_
                 refine zp 7 (some 40) zm7 HT_ ?_
                 refine take_ (i := 6) (N := some 39) (v := ?_) (a' := ?_) zm8 rfl rfl (take_ofW HT_.out HW_.out (by kernel_rfl)) (fun _ _ _ h => h) (Or.inl ⟨by rfl, ?_⟩) hHeld ?_ ?_
                 rotate_left
                 ·
                  rintro w' ⟨s0, s1, s2, s3, s4, s5, s6, s7, s8, s9, s10⟩
                  go_simp
                  with_reducible rfl
                 rotate_left
                 ·
                  simp only [Act.put, List.setIfInBounds_toArray, List.set_cons_zero, List.set_cons_succ, i64_w, i32_w]
                  rfl
                 refine take_ (i := 8) (N := some 41) (v := ?_) (a' := ?_) zm9 rfl rfl (take_ofW HT_.out HW_.out (by kernel_rfl)) (fun _ _ _ h => h) (Or.inl ⟨by rfl, ?_⟩) hHeld ?_ ?_
                 rotate_left
                 ·
                  rintro w' ⟨s0, s1, s2, s3, s4, s5, s6, s7, s8, s9, s10⟩
                  go_simp
                  with_reducible rfl
                 rotate_left
                 ·
                  simp only [Act.put, List.setIfInBounds_toArray, List.set_cons_zero, List.set_cons_succ, i64_w, i32_w]
                  rfl
                 refine zp 9 (some 42) zm10 HT_ ?_
                 refine one_ (i := 10) (N := some 43) zm11 rfl rfl (one_of HT_.out (by kernel_rfl)) (by decide) (fun K hK => ?_)
                 refine goes_ Tryd.func47 (by kernel_rfl) rfl #[.int .i64 ((rd_T71 l0_2 x3_2).f1), .int .i64 1, .int .i64 (wrap64 (a0_1 - 1))] (by rfl) rfl rfl zb1_5 ?_
                 with_reducible refine (spec_l03Is.calls ((rd_T71 l0_2 x3_2).f1) 1 (wrap64 (a0_1 - 1)) true _ A16.out).mono ?_
                 rintro e w' ⟨rfl, ⟨nd, rfl⟩⟩
                 refine ⟨_, rfl, ?_⟩
                 refine hK.out _ _ ⟨(blk_cell BK166.out 0).trans rfl, (blk_cell BK166.out 1).trans rfl, (blk_cell BK166.out 2).trans rfl, (blk_cell BK166.out 3).trans rfl, (blk_cell BK162.out 0).trans rfl, (blk_cell BK162.out 1).trans rfl, (blk_cell BK162.out 2).trans rfl, ((HB.out.cell (World.block_lt_of_cell? w _ hw169_0)).trans hw169_0), ((HB.out.cell (World.block_lt_of_cell? w _ hw169_1)).trans hw169_1), ((HB.out.cell (World.block_lt_of_cell? w _ hw169_2)).trans hw169_2), ((HB.out.cell (World.block_lt_of_cell? w _ hw169_3)).trans hw169_3)⟩ (fun hHeld => ?_)
                 clear hK K
                 refine norm_ (a' := ?_) ?_ ?_
                 rotate_left
                 ·
                  show Act.put _ (some 43) _ = _
                  simp only [Act.put, List.setIfInBounds_toArray, List.set_cons_zero, List.set_cons_succ, i64_w, i32_w]
                  rfl
                 refine zp 11 (some 44) zm12 HT_ ?_
                 refine zp 12 (some 45) zm13 HT_ ?_
                 refine zp 13 (some 46) zm14 HT_ ?_
                 refine zp 14 (some 47) zm15 HT_ ?_
                 refine zp 15 (some 48) zm16 HT_ ?_
                 refine zp 16 (some 49) zm17 HT_ ?_
                 refine zp 17 (some 50) zm18 HT_ ?_
                 refine zp 19 (some 52) zm19 HT_ ?_
                 refine zp 20 (some 53) zm20 HT_ ?_
                 refine zp 24 (some 57) zm21 HT_ ?_
                 refine take_ (i := 18) (N := some 51) (v := ?_) (a' := ?_) zm22 rfl rfl (take_ofW HT_.out HW_.out (by kernel_rfl)) (fun _ _ _ h => h) (Or.inl ⟨by rfl, ?_⟩) hHeld ?_ ?_
                 rotate_left
                 ·
                  rintro w' ⟨s0, s1, s2, s3, s4, s5, s6, s7, s8, s9, s10⟩
                  go_simp
                  with_reducible rfl
                 rotate_left
                 ·
                  simp only [Act.put, List.setIfInBounds_toArray, List.set_cons_zero, List.set_cons_succ, i64_w, i32_w]
                  rfl
                 refine zp 21 (some 54) zm23 HT_ ?_
                 refine zp 22 (some 55) zm24 HT_ ?_
                 refine take_ (i := 23) (N := some 56) (v := ?_) (a' := ?_) zm25 rfl rfl (take_ofW HT_.out HW_.out (by kernel_rfl)) (fun _ _ _ h => h) (Or.inl ⟨by rfl, ?_⟩) hHeld ?_ ?_
                 rotate_left
                 ·
                  rintro w' ⟨s0, s1, s2, s3, s4, s5, s6, s7, s8, s9, s10⟩
                  go_simp
                  with_reducible rfl
                 rotate_left
                 ·
                  simp only [Act.put, List.setIfInBounds_toArray, List.set_cons_zero, List.set_cons_succ, i64_w, i32_w]
                  rfl
                 refine take_ (i := 25) (N := some 58) (v := ?_) (a' := ?_) zm26 rfl rfl (take_ofW HT_.out HW_.out (by kernel_rfl)) (fun _ _ _ h => h) (Or.inl ⟨by rfl, ?_⟩) hHeld ?_ ?_
                 rotate_left
                 ·
                  rintro w' ⟨s0, s1, s2, s3, s4, s5, s6, s7, s8, s9, s10⟩
                  go_simp
                  with_reducible rfl
                 rotate_left
                 ·
                  simp only [Act.put, List.setIfInBounds_toArray, List.set_cons_zero, List.set_cons_succ, i64_w, i32_w]
                  rfl
                 refine zp 26 (some 59) zm27 HT_ ?_
                 refine zp 27 (some 60) zm28 HT_ ?_
                 refine zp 28 (some 61) zm29 HT_ ?_
                 refine zp 29 (some 62) zm30 HT_ ?_
                 refine zp 30 (some 63) zm31 HT_ ?_
                 refine take_ (i := 31) (N := some 64) (v := ?_) (a' := ?_) zm32 rfl rfl (take_ofW HT_.out HW_.out (by kernel_rfl)) (fun _ _ _ h => h) (Or.inl ⟨by rfl, ?_⟩) hHeld ?_ ?_
                 rotate_left
                 ·
                  rintro w' ⟨s0, s1, s2, s3, s4, s5, s6, s7, s8, s9, s10⟩
                  go_simp
                  with_reducible rfl
                 rotate_left
                 ·
                  simp only [Act.put, List.setIfInBounds_toArray, List.set_cons_zero, List.set_cons_succ, i64_w, i32_w]
                  rfl
                 refine one_ (i := 32) (N := some 65) zm33 rfl rfl (one_of HT_.out (by kernel_rfl)) (by decide) (fun K hK => ?_)
                 refine goes_ Tryd.func47 (by kernel_rfl) rfl #[.int .i64 ((rd_T71 l0_2 x3_2).f2), .int .i64 0, .int .i64 3] (by rfl) rfl rfl zb1_5 ?_
                 with_reducible refine (spec_l03Is.calls ((rd_T71 l0_2 x3_2).f2) 0 3 true _ A29.out).mono ?_
                 rintro e w' ⟨rfl, ⟨nd, rfl⟩⟩
                 refine ⟨_, rfl, ?_⟩
                 refine hK.out _ _ ⟨(blk_cell BK166.out 0).trans rfl, (blk_cell BK166.out 1).trans rfl, (blk_cell BK166.out 2).trans rfl, (blk_cell BK166.out 3).trans rfl, (blk_cell BK162.out 0).trans rfl, (blk_cell BK162.out 1).trans rfl, (blk_cell BK162.out 2).trans rfl, ((HB.out.cell (World.block_lt_of_cell? w _ hw169_0)).trans hw169_0), ((HB.out.cell (World.block_lt_of_cell? w _ hw169_1)).trans hw169_1), ((HB.out.cell (World.block_lt_of_cell? w _ hw169_2)).trans hw169_2), ((HB.out.cell (World.block_lt_of_cell? w _ hw169_3)).trans hw169_3)⟩ (fun hHeld => ?_)
                 clear hK K
                 refine norm_ (a' := ?_) ?_ ?_
                 rotate_left
                 ·
                  show Act.put _ (some 65) _ = _
                  simp only [Act.put, List.setIfInBounds_toArray, List.set_cons_zero, List.set_cons_succ, i64_w, i32_w]
                  rfl
                 refine zp 33 (some 66) zm34 HT_ ?_
                 refine zp 34 (some 67) zm35 HT_ ?_
                 refine zp 35 (some 68) zm36 HT_ ?_
                 refine zp 36 (some 69) zm37 HT_ ?_
                 refine take_ (i := 37) (N := some 70) (v := ?_) (a' := ?_) zm38 rfl rfl (take_ofW HT_.out HW_.out (by kernel_rfl)) (fun _ _ _ h => h) (Or.inl ⟨by rfl, ?_⟩) hHeld ?_ ?_
                 rotate_left
                 ·
                  rintro w' ⟨s0, s1, s2, s3, s4, s5, s6, s7, s8, s9, s10⟩
                  go_simp
                  with_reducible rfl
                 rotate_left
                 ·
                  simp only [Act.put, List.setIfInBounds_toArray, List.set_cons_zero, List.set_cons_succ, i64_w, i32_w]
                  rfl
                 refine zp 38 (some 71) zm39 HT_ ?_
                 refine zp 39 (some 72) zm40 HT_ ?_
                 refine zp 40 (some 73) zm41 HT_ ?_
                 refine zp 41 (some 74) zm42 HT_ ?_
                 refine zp 42 (some 75) zm43 HT_ ?_
                 refine zp 45 (some 78) zm51 HT_ ?_
                 refine take_ (i := 43) (N := some 76) (v := ?_) (a' := ?_) zm52 rfl rfl (take_ofW HT_.out HW_.out (by kernel_rfl)) (fun _ _ _ h => h) (Or.inl ⟨by rfl, ?_⟩) hHeld ?_ ?_
                 rotate_left
                 ·
                  rintro w' ⟨s0, s1, s2, s3, s4, s5, s6, s7, s8, s9, s10⟩
                  go_simp
                  with_reducible rfl
                 rotate_left
                 ·
                  simp only [Act.put, List.setIfInBounds_toArray, List.set_cons_zero, List.set_cons_succ, i64_w, i32_w]
                  rfl
                 refine zp 44 (some 77) zm46 HT_ ?_
                 refine take_ (i := 46) (N := some 79) (v := ?_) (a' := ?_) zm47 rfl rfl (take_ofW HT_.out HW_.out (by kernel_rfl)) (fun _ _ _ h => h) (Or.inl ⟨by rfl, ?_⟩) hHeld ?_ ?_
                 rotate_left
                 ·
                  rintro w' ⟨s0, s1, s2, s3, s4, s5, s6, s7, s8, s9, s10⟩
                  go_simp
                  with_reducible rfl
                 rotate_left
                 ·
                  simp only [Act.put, List.setIfInBounds_toArray, List.set_cons_zero, List.set_cons_succ, i64_w, i32_w]
                  rfl
                 refine zp 47 (some 80) zm48 HT_ ?_
                 refine zp 48 (some 81) zm49 HT_ ?_
                 refine zp 49 (some 82) zm50 HT_ ?_
                 refine done_ (done_of HT_.out (by kernel_rfl)) ?_
                 try go_wp2
                 go_roundg k2
                 case measure => have := HJ1.out; have := HK2.out; omega
                 case rel => exact ⟨(wrap64 (x3_2 + 1)), zb2_5, H', ⟨by have := HJ1.out; have := HK2.out; omega⟩, ⟨by (with_reducible repeat (first | refine blk_drewN ?_ _ | refine blk_drew ?_ | refine blk_alloc ?_ _)); exact BK162.out⟩, ⟨by repeat (first | (with_reducible first | exact HB.out | apply below_alloc | apply pw_below_drewN | apply below_drew1 | refine below_set ?_ GE162.out | refine below_set ?_ GE166.out) | exact HB.out)⟩⟩
              ·
               replace c30 := Bool.eq_false_iff.mpr c30
               subst c30
               have H1 : (some false) = some r := by rw [if_neg (show ¬ (false = true) by decide)] at H; exact H
               clear H
               have H := H1
               clear H1
               obtain rfl := Option.some.inj H
               have hcz51_0 := bcq_5 BK162.out 0
               have hcz51_1 := bcq_5 BK162.out 1
               have hcz51_2 := bcq_5 BK162.out 2
               have hfz51_0 := blk_frozen BK162.out 0
               have hfz51_1 := blk_frozen BK162.out 1
               have hfz51_2 := blk_frozen BK162.out 2
               have p165 : 0 ≤ (x3_2 : Int) := of_decide_eq_true zb3_5
               have q165 : x3_2 < (l0_2.length : Int) := of_decide_eq_true zb3_5
               obtain ⟨ad165, e165, hx165_0, hx165_1, hx165_2, hx165_3⟩ := at_T71 HR0_2.out x3_2 p165 q165
               cases e165
               replace hx165_0 := (HB.out.cell (World.block_lt_of_cell? w _ hx165_0)).trans hx165_0
               replace hx165_1 := (HB.out.cell (World.block_lt_of_cell? w _ hx165_1)).trans hx165_1
               replace hx165_2 := (HB.out.cell (World.block_lt_of_cell? w _ hx165_2)).trans hx165_2
               replace hx165_3 := (HB.out.cell (World.block_lt_of_cell? w _ hx165_3)).trans hx165_3
               replace p165 := eq_true p165
               replace q165 := eq_true q165
               try go_wp2_with (first | ((with_reducible refine gate_dst (N := 4) rfl ?_); (try (refine gate_guard (by rfl) ?_; dsimp only)); refine box_event ?hg (N := 4) ?hd (cs := #[.string (⟨#[]⟩ : ByteArray), .int .i64 0, .int .i64 0, .string (⟨#[]⟩ : ByteArray)]) (t := 71) ?hr ?_; (case hd => rfl); (case hg => rfl); (case hr => first | (go_simp; done) | (go_simp; rfl)); intro gb166 hg w52 hbox hb; have n0_ := Aside0.mk (blk_below (g := gb162) (o := .cells #[.string a0_0, .int .i64 a0_1, .slice (some ad165) l0_2.length c0_2] 40 (0, 0)) zb4_5 hb); have n1_ := Aside0.mk (below_step zb5_5 hb); have n2_ := Aside0.mk (hbox); have n3_ := Aside0.mk ((zb6_5 : w.heap.size ≤ gb166)); have n4_ := Aside0.mk ((zb6_5 : w.heap.size ≤ gb166)); have n5_ := Aside0.mk ((zb7_5 : gb162 ≠ gb166)); have n6_ := Aside0.mk ((zb8_5 : gb166 ≠ gb162)); clear BK162; clear HB; have BK162 := n0_; have HB := n1_; have BK166 := n2_; have GW166 := n3_; have GE166 := n4_; have NB162_166 := n5_; have NB166_162 := n6_; clear n0_ n1_ n2_ n3_ n4_ n5_ n6_; clear hb hbox hg; have hnb53 := NB166_162.out; have hnc53 := NB162_166.out; have hcz54_0 := bcq_5 BK166.out 0; have hcz54_1 := bcq_5 BK166.out 1; have hcz54_2 := bcq_5 BK166.out 2; have hcz54_3 := bcq_5 BK166.out 3; have hfz54_0 := blk_frozen BK166.out 0; have hfz54_1 := blk_frozen BK166.out 1; have hfz54_2 := blk_frozen BK166.out 2; have hfz54_3 := blk_frozen BK166.out 3))
               have n0_ : Aside0 (((((w52.setCell ⟨gb166, 0, none⟩ (.string ((rd_T71 l0_2 x3_2).f0))).setCell ⟨gb166, 1, none⟩ (.int .i64 ((rd_T71 l0_2 x3_2).f1))).setCell ⟨gb166, 2, none⟩ (.int .i64 ((rd_T71 l0_2 x3_2).f2))).setCell ⟨gb166, 3, none⟩ (.string ((rd_T71 l0_2 x3_2).f3))).heap[gb162]? = some (.cells #[.string a0_0, .int .i64 a0_1, .slice (some ad165) l0_2.length c0_2] 40 (0, 0))) := ⟨by (with_reducible repeat (first | refine blk_drewN ?_ _ | refine blk_drew ?_ | refine blk_alloc ?_ _)); refine blk_far ?_ NB162_166.out _; (with_reducible repeat (first | refine blk_drewN ?_ _ | refine blk_drew ?_ | refine blk_alloc ?_ _)); refine blk_far ?_ NB162_166.out _; (with_reducible repeat (first | refine blk_drewN ?_ _ | refine blk_drew ?_ | refine blk_alloc ?_ _)); refine blk_far ?_ NB162_166.out _; (with_reducible repeat (first | refine blk_drewN ?_ _ | refine blk_drew ?_ | refine blk_alloc ?_ _)); refine blk_far ?_ NB162_166.out _; (with_reducible repeat (first | refine blk_drewN ?_ _ | refine blk_drew ?_ | refine blk_alloc ?_ _)); exact BK162.out⟩
               have n1_ : Aside0 (((((w52.setCell ⟨gb166, 0, none⟩ (.string ((rd_T71 l0_2 x3_2).f0))).setCell ⟨gb166, 1, none⟩ (.int .i64 ((rd_T71 l0_2 x3_2).f1))).setCell ⟨gb166, 2, none⟩ (.int .i64 ((rd_T71 l0_2 x3_2).f2))).setCell ⟨gb166, 3, none⟩ (.string ((rd_T71 l0_2 x3_2).f3))).heap[gb166]? = some (.cells #[.string ((rd_T71 l0_2 x3_2).f0), .int .i64 ((rd_T71 l0_2 x3_2).f1), .int .i64 ((rd_T71 l0_2 x3_2).f2), .string ((rd_T71 l0_2 x3_2).f3)] 71 (0, 0))) := ⟨by (with_reducible repeat (first | refine blk_drewN ?_ _ | refine blk_drew ?_ | refine blk_alloc ?_ _)); refine blk_put (cs := #[.string ((rd_T71 l0_2 x3_2).f0), .int .i64 ((rd_T71 l0_2 x3_2).f1), .int .i64 ((rd_T71 l0_2 x3_2).f2), .string (⟨#[]⟩ : ByteArray)]) ?_ 3 _ rfl; (with_reducible repeat (first | refine blk_drewN ?_ _ | refine blk_drew ?_ | refine blk_alloc ?_ _)); refine blk_put (cs := #[.string ((rd_T71 l0_2 x3_2).f0), .int .i64 ((rd_T71 l0_2 x3_2).f1), .int .i64 0, .string (⟨#[]⟩ : ByteArray)]) ?_ 2 _ rfl; (with_reducible repeat (first | refine blk_drewN ?_ _ | refine blk_drew ?_ | refine blk_alloc ?_ _)); refine blk_put (cs := #[.string ((rd_T71 l0_2 x3_2).f0), .int .i64 0, .int .i64 0, .string (⟨#[]⟩ : ByteArray)]) ?_ 1 _ rfl; (with_reducible repeat (first | refine blk_drewN ?_ _ | refine blk_drew ?_ | refine blk_alloc ?_ _)); refine blk_put (cs := #[.string (⟨#[]⟩ : ByteArray), .int .i64 0, .int .i64 0, .string (⟨#[]⟩ : ByteArray)]) ?_ 0 _ rfl; (with_reducible repeat (first | refine blk_drewN ?_ _ | refine blk_drew ?_ | refine blk_alloc ?_ _)); exact BK166.out⟩
               have n2_ : Aside0 (Below w.heap.size w ((((w52.setCell ⟨gb166, 0, none⟩ (.string ((rd_T71 l0_2 x3_2).f0))).setCell ⟨gb166, 1, none⟩ (.int .i64 ((rd_T71 l0_2 x3_2).f1))).setCell ⟨gb166, 2, none⟩ (.int .i64 ((rd_T71 l0_2 x3_2).f2))).setCell ⟨gb166, 3, none⟩ (.string ((rd_T71 l0_2 x3_2).f3)))) := ⟨by repeat (first | (with_reducible first | exact HB.out | apply below_alloc | apply pw_below_drewN | apply below_drew1 | refine below_set ?_ GE162.out | refine below_set ?_ GE166.out) | exact HB.out)⟩
               (try clear BK162)
               (try clear BK166)
               (try clear HB)
               generalize ((((w52.setCell ⟨gb166, 0, none⟩ (.string ((rd_T71 l0_2 x3_2).f0))).setCell ⟨gb166, 1, none⟩ (.int .i64 ((rd_T71 l0_2 x3_2).f1))).setCell ⟨gb166, 2, none⟩ (.int .i64 ((rd_T71 l0_2 x3_2).f2))).setCell ⟨gb166, 3, none⟩ (.string ((rd_T71 l0_2 x3_2).f3))) = w55 at n0_ n1_ n2_ ⊢
               have BK162 := n0_
               have BK166 := n1_
               have HB := n2_
               clear n0_ n1_ n2_
               have n0_ := Aside0.mk (blk_drew BK162.out)
               have n1_ := Aside0.mk (blk_drew BK166.out)
               have n2_ := Aside0.mk (below_drew1 HB.out)
               clear BK162
               clear BK166
               clear HB
               have BK162 := n0_
               have BK166 := n1_
               have HB := n2_
               clear n0_ n1_ n2_
               have p169 : 0 ≤ ((ji19) : Int) := of_decide_eq_true zb3_5
               have q169 : (ji19) < (l0_2.length : Int) := of_decide_eq_true zb3_5
               obtain ⟨ad169, e169, hx169_0, hx169_1, hx169_2, hx169_3⟩ := at_T71 HR0_2.out (ji19) p169 q169
               have hw169_3 := hx169_3
               have hw169_2 := hx169_2
               have hw169_1 := hx169_1
               have hw169_0 := hx169_0
               obtain rfl : ad165 = ad169 := (by injection e169)
               replace hx169_0 := (HB.out.cell (World.block_lt_of_cell? w _ hx169_0)).trans hx169_0
               replace hx169_1 := (HB.out.cell (World.block_lt_of_cell? w _ hx169_1)).trans hx169_1
               replace hx169_2 := (HB.out.cell (World.block_lt_of_cell? w _ hx169_2)).trans hx169_2
               replace hx169_3 := (HB.out.cell (World.block_lt_of_cell? w _ hx169_3)).trans hx169_3
               replace p169 := eq_true p169
               replace q169 := eq_true q169
               refine start_ (n := 50) (S := fun w' => w'.cell? ⟨gb166, 0, none⟩ = some (.string ((rd_T71 l0_2 x3_2).f0)) ∧ w'.cell? ⟨gb166, 1, none⟩ = some (.int .i64 ((rd_T71 l0_2 x3_2).f1)) ∧ w'.cell? ⟨gb166, 2, none⟩ = some (.int .i64 ((rd_T71 l0_2 x3_2).f2)) ∧ w'.cell? ⟨gb166, 3, none⟩ = some (.string ((rd_T71 l0_2 x3_2).f3)) ∧ w'.cell? ⟨gb162, 0, none⟩ = some (.string a0_0) ∧ w'.cell? ⟨gb162, 1, none⟩ = some (.int .i64 a0_1) ∧ w'.cell? ⟨gb162, 2, none⟩ = some (.slice (some ad165) l0_2.length c0_2) ∧ w'.cell? (ad165.add (((ji19)).toNat * 4)) = some (.string ((rd_T71 l0_2 (ji19)).f0)) ∧ w'.cell? ⟨(ad165.add (((ji19)).toNat * 4)).block, (ad165.add (((ji19)).toNat * 4)).off + 1, none⟩ = some (.int .i64 ((rd_T71 l0_2 (ji19)).f1)) ∧ w'.cell? ⟨(ad165.add (((ji19)).toNat * 4)).block, (ad165.add (((ji19)).toNat * 4)).off + 2, none⟩ = some (.int .i64 ((rd_T71 l0_2 (ji19)).f2)) ∧ w'.cell? ⟨(ad165.add (((ji19)).toNat * 4)).block, (ad165.add (((ji19)).toNat * 4)).off + 3, none⟩ = some (.string ((rd_T71 l0_2 (ji19)).f3))) (ds := []) zm0 (by kernel_rfl) rfl rfl ⟨(blk_cell BK166.out 0).trans rfl, (blk_cell BK166.out 1).trans rfl, (blk_cell BK166.out 2).trans rfl, (blk_cell BK166.out 3).trans rfl, (blk_cell BK162.out 0).trans rfl, (blk_cell BK162.out 1).trans rfl, (blk_cell BK162.out 2).trans rfl, ((HB.out.cell (World.block_lt_of_cell? w _ hw169_0)).trans hw169_0), ((HB.out.cell (World.block_lt_of_cell? w _ hw169_1)).trans hw169_1), ((HB.out.cell (World.block_lt_of_cell? w _ hw169_2)).trans hw169_2), ((HB.out.cell (World.block_lt_of_cell? w _ hw169_3)).trans hw169_3)⟩ (fun hHeld => ?_); refine with_tabW spec_DialbackRight.tab7 spec_DialbackRight.bits7 (fun HT_ HW_ => ?_)
               generalize w55.drew = w56 at BK162 BK166 HB hx169_0 hx169_1 hx169_2 hx169_3 hHeld ⊢
               refine zp 0 (some 33) zm1 HT_ ?_
               refine take_ (i := 1) (N := some 34) (v := ?_) (a' := ?_) zm2 rfl rfl (take_ofW HT_.out HW_.out (by kernel_rfl)) (fun _ _ _ h => h) (Or.inl ⟨by rfl, ?_⟩) hHeld ?_ ?_
               rotate_left
               ·
                rintro w' ⟨s0, s1, s2, s3, s4, s5, s6, s7, s8, s9, s10⟩
                go_simp
                with_reducible rfl
               rotate_left
               ·
                simp only [Act.put, List.setIfInBounds_toArray, List.set_cons_zero, List.set_cons_succ, i64_w, i32_w]
                rfl
               refine one_ (i := 2) (N := some 35) zm3 rfl rfl (one_of HT_.out (by kernel_rfl)) (by decide) (fun K hK => ?_)
               refine goes_ Tryd.func46 (by kernel_rfl) rfl #[.string ((rd_T71 l0_2 x3_2).f0)] (by rfl) rfl rfl zb1_5 ?_
               with_reducible refine (spec_l05Domain.calls k2 ((rd_T71 l0_2 x3_2).f0) true _ A14.out).mono ?_
               rintro e w' ⟨rfl, ⟨nd, rfl⟩⟩
               refine ⟨_, rfl, ?_⟩
               refine hK.out _ _ ⟨(blk_cell BK166.out 0).trans rfl, (blk_cell BK166.out 1).trans rfl, (blk_cell BK166.out 2).trans rfl, (blk_cell BK166.out 3).trans rfl, (blk_cell BK162.out 0).trans rfl, (blk_cell BK162.out 1).trans rfl, (blk_cell BK162.out 2).trans rfl, ((HB.out.cell (World.block_lt_of_cell? w _ hw169_0)).trans hw169_0), ((HB.out.cell (World.block_lt_of_cell? w _ hw169_1)).trans hw169_1), ((HB.out.cell (World.block_lt_of_cell? w _ hw169_2)).trans hw169_2), ((HB.out.cell (World.block_lt_of_cell? w _ hw169_3)).trans hw169_3)⟩ (fun hHeld => ?_)
               clear hK K
               refine norm_ (a' := ?_) ?_ ?_
               rotate_left
               ·
                show Act.put _ (some 35) _ = _
                simp only [Act.put, List.setIfInBounds_toArray, List.set_cons_zero, List.set_cons_succ, i64_w, i32_w]
                rfl
               refine zp 3 (some 36) zm4 HT_ ?_
               refine zp 4 (some 37) zm5 HT_ ?_
               refine zp 5 (some 38) zm6 HT_ ?_
               refine zp 7 (some 40) zm7 HT_ ?_
               refine take_ (i := 6) (N := some 39) (v := ?_) (a' := ?_) zm8 rfl rfl (take_ofW HT_.out HW_.out (by kernel_rfl)) (fun _ _ _ h => h) (Or.inl ⟨by rfl, ?_⟩) hHeld ?_ ?_
               rotate_left
               ·
                rintro w' ⟨s0, s1, s2, s3, s4, s5, s6, s7, s8, s9, s10⟩
                go_simp
                with_reducible rfl
               rotate_left
               ·
                simp only [Act.put, List.setIfInBounds_toArray, List.set_cons_zero, List.set_cons_succ, i64_w, i32_w]
                rfl
               refine take_ (i := 8) (N := some 41) (v := ?_) (a' := ?_) zm9 rfl rfl (take_ofW HT_.out HW_.out (by kernel_rfl)) (fun _ _ _ h => h) (Or.inl ⟨by rfl, ?_⟩) hHeld ?_ ?_
               rotate_left
               ·
                rintro w' ⟨s0, s1, s2, s3, s4, s5, s6, s7, s8, s9, s10⟩
                go_simp
                with_reducible rfl
               rotate_left
               ·
                simp only [Act.put, List.setIfInBounds_toArray, List.set_cons_zero, List.set_cons_succ, i64_w, i32_w]
                rfl
               refine zp 9 (some 42) zm10 HT_ ?_
               refine one_ (i := 10) (N := some 43) zm11 rfl rfl (one_of HT_.out (by kernel_rfl)) (by decide) (fun K hK => ?_)
               refine goes_ Tryd.func47 (by kernel_rfl) rfl #[.int .i64 ((rd_T71 l0_2 x3_2).f1), .int .i64 1, .int .i64 (wrap64 (a0_1 - 1))] (by rfl) rfl rfl zb1_5 ?_
               with_reducible refine (spec_l03Is.calls ((rd_T71 l0_2 x3_2).f1) 1 (wrap64 (a0_1 - 1)) true _ A16.out).mono ?_
               rintro e w' ⟨rfl, ⟨nd, rfl⟩⟩
               refine ⟨_, rfl, ?_⟩
               refine hK.out _ _ ⟨(blk_cell BK166.out 0).trans rfl, (blk_cell BK166.out 1).trans rfl, (blk_cell BK166.out 2).trans rfl, (blk_cell BK166.out 3).trans rfl, (blk_cell BK162.out 0).trans rfl, (blk_cell BK162.out 1).trans rfl, (blk_cell BK162.out 2).trans rfl, ((HB.out.cell (World.block_lt_of_cell? w _ hw169_0)).trans hw169_0), ((HB.out.cell (World.block_lt_of_cell? w _ hw169_1)).trans hw169_1), ((HB.out.cell (World.block_lt_of_cell? w _ hw169_2)).trans hw169_2), ((HB.out.cell (World.block_lt_of_cell? w _ hw169_3)).trans hw169_3)⟩ (fun hHeld => ?_)
               clear hK K
               refine norm_ (a' := ?_) ?_ ?_
               rotate_left
               ·
                show Act.put _ (some 43) _ = _
                simp only [Act.put, List.setIfInBounds_toArray, List.set_cons_zero, List.set_cons_succ, i64_w, i32_w]
                rfl
               refine zp 11 (some 44) zm12 HT_ ?_
               refine zp 12 (some 45) zm13 HT_ ?_
               refine zp 13 (some 46) zm14 HT_ ?_
               refine zp 14 (some 47) zm15 HT_ ?_
               refine zp 15 (some 48) zm16 HT_ ?_
               refine zp 16 (some 49) zm17 HT_ ?_
               refine zp 17 (some 50) zm18 HT_ ?_
               refine zp 19 (some 52) zm19 HT_ ?_
               refine zp 20 (some 53) zm20 HT_ ?_
               refine zp 24 (some 57) zm21 HT_ ?_
               refine take_ (i := 18) (N := some 51) (v := ?_) (a' := ?_) zm22 rfl rfl (take_ofW HT_.out HW_.out (by kernel_rfl)) (fun _ _ _ h => h) (Or.inl ⟨by rfl, ?_⟩) hHeld ?_ ?_
               rotate_left
               ·
                rintro w' ⟨s0, s1, s2, s3, s4, s5, s6, s7, s8, s9, s10⟩
                go_simp
                with_reducible rfl
               rotate_left
               ·
                simp only [Act.put, List.setIfInBounds_toArray, List.set_cons_zero, List.set_cons_succ, i64_w, i32_w]
                rfl
               refine zp 21 (some 54) zm23 HT_ ?_
               refine zp 22 (some 55) zm24 HT_ ?_
               refine take_ (i := 23) (N := some 56) (v := ?_) (a' := ?_) zm25 rfl rfl (take_ofW HT_.out HW_.out (by kernel_rfl)) (fun _ _ _ h => h) (Or.inl ⟨by rfl, ?_⟩) hHeld ?_ ?_
               rotate_left
               ·
                rintro w' ⟨s0, s1, s2, s3, s4, s5, s6, s7, s8, s9, s10⟩
                go_simp
                with_reducible rfl
               rotate_left
               ·
                simp only [Act.put, List.setIfInBounds_toArray, List.set_cons_zero, List.set_cons_succ, i64_w, i32_w]
                rfl
               refine take_ (i := 25) (N := some 58) (v := ?_) (a' := ?_) zm26 rfl rfl (take_ofW HT_.out HW_.out (by kernel_rfl)) (fun _ _ _ h => h) (Or.inl ⟨by rfl, ?_⟩) hHeld ?_ ?_
               rotate_left
               ·
                rintro w' ⟨s0, s1, s2, s3, s4, s5, s6, s7, s8, s9, s10⟩
                go_simp
                with_reducible rfl
               rotate_left
               ·
                simp only [Act.put, List.setIfInBounds_toArray, List.set_cons_zero, List.set_cons_succ, i64_w, i32_w]
                rfl
               refine zp 26 (some 59) zm27 HT_ ?_
               refine zp 27 (some 60) zm28 HT_ ?_
               refine zp 28 (some 61) zm29 HT_ ?_
               refine zp 29 (some 62) zm30 HT_ ?_
               refine zp 30 (some 63) zm31 HT_ ?_
               refine take_ (i := 31) (N := some 64) (v := ?_) (a' := ?_) zm32 rfl rfl (take_ofW HT_.out HW_.out (by kernel_rfl)) (fun _ _ _ h => h) (Or.inl ⟨by rfl, ?_⟩) hHeld ?_ ?_
               rotate_left
               ·
                rintro w' ⟨s0, s1, s2, s3, s4, s5, s6, s7, s8, s9, s10⟩
                go_simp
                with_reducible rfl
               rotate_left
               ·
                simp only [Act.put, List.setIfInBounds_toArray, List.set_cons_zero, List.set_cons_succ, i64_w, i32_w]
                rfl
               refine one_ (i := 32) (N := some 65) zm33 rfl rfl (one_of HT_.out (by kernel_rfl)) (by decide) (fun K hK => ?_)
               refine goes_ Tryd.func47 (by kernel_rfl) rfl #[.int .i64 ((rd_T71 l0_2 x3_2).f2), .int .i64 0, .int .i64 3] (by rfl) rfl rfl zb1_5 ?_
               with_reducible refine (spec_l03Is.calls ((rd_T71 l0_2 x3_2).f2) 0 3 false _ A29.out).mono ?_
               rintro e w' ⟨rfl, ⟨nd, rfl⟩⟩
               refine ⟨_, rfl, ?_⟩
               refine hK.out _ _ ⟨(blk_cell BK166.out 0).trans rfl, (blk_cell BK166.out 1).trans rfl, (blk_cell BK166.out 2).trans rfl, (blk_cell BK166.out 3).trans rfl, (blk_cell BK162.out 0).trans rfl, (blk_cell BK162.out 1).trans rfl, (blk_cell BK162.out 2).trans rfl, ((HB.out.cell (World.block_lt_of_cell? w _ hw169_0)).trans hw169_0), ((HB.out.cell (World.block_lt_of_cell? w _ hw169_1)).trans hw169_1), ((HB.out.cell (World.block_lt_of_cell? w _ hw169_2)).trans hw169_2), ((HB.out.cell (World.block_lt_of_cell? w _ hw169_3)).trans hw169_3)⟩ (fun hHeld => ?_)
               clear hK K
               refine norm_ (a' := ?_) ?_ ?_
               rotate_left
               ·
                show Act.put _ (some 65) _ = _
                simp only [Act.put, List.setIfInBounds_toArray, List.set_cons_zero, List.set_cons_succ, i64_w, i32_w]
                rfl
               refine zp 33 (some 66) zm34 HT_ ?_
               refine zp 34 (some 67) zm35 HT_ ?_
               refine zp 35 (some 68) zm36 HT_ ?_
               refine zu 36 (some 69) zm37 HT_ ?_
               refine zu 37 (some 70) zm38 HT_ ?_
               refine zu 38 (some 71) zm39 HT_ ?_
               refine zu 39 (some 72) zm40 HT_ ?_
               refine zp 40 (some 73) zm41 HT_ ?_
               refine zp 41 (some 74) zm42 HT_ ?_
               refine zu 42 (some 75) zm43 HT_ ?_
               refine zu 43 (some 76) zm44 HT_ ?_
               refine zu 44 (some 77) zm45 HT_ ?_
               refine zu 45 (some 78) zm46 HT_ ?_
               refine zu 46 (some 79) zm47 HT_ ?_
               refine zu 47 (some 80) zm48 HT_ ?_
               refine zu 48 (some 81) zm49 HT_ ?_
               refine zp 49 (some 82) zm50 HT_ ?_
               refine done_ (done_of HT_.out (by kernel_rfl)) ?_
               try go_wp2
               go_ret
               exact ⟨by first | rfl | (simp [errW_none, errW_some] <;> rfl) | (simp only [← hji19]; first | rfl | (simp [errW_none, errW_some] <;> rfl)) | (simp [*, errW_none, errW_some] <;> rfl), by repeat (first | (with_reducible first | exact HB.out | apply below_alloc | apply pw_below_drewN | apply below_drew1 | refine below_set ?_ GE162.out | refine below_set ?_ GE166.out) | exact HB.out)⟩
            ·
             rw [if_neg c21] at H
             exact absurd H (by simp)
           ·
            rw [if_neg c20] at H
            exact absurd H (by simp)
          ·
           rw [if_neg c18] at H
           have c18b0 : decide (0 < x3_2) = false := decide_eq_false c18
           clear c18
           replace H := Option.bind_eq_some_iff.mp H
           obtain ⟨t171, A570, H⟩ := H
           replace H : (if t171 = true then (if (((rd_T71 l0_2 x3_2).f3).size : Int) > 64 then (some false) else (if ((((rd_T71 l0_2 x3_2).f3).toList == ([] : List UInt8)) != (((rd_T71 l0_2 x3_2).f2) == 0)) = true then (some false) else (spec_DialbackRight.l0 k2 (wrap64 (x3_2 + 1)) a0_0 a0_1 l0_2))) else (some false)) = some r := H
           have A57 := Aside0.mk A570
           clear A570
           by_cases c58 : t171 = true
           ·
            subst c58
            have H1 : (if (((rd_T71 l0_2 x3_2).f3).size : Int) > 64 then (some false) else (if ((((rd_T71 l0_2 x3_2).f3).toList == ([] : List UInt8)) != (((rd_T71 l0_2 x3_2).f2) == 0)) = true then (some false) else (spec_DialbackRight.l0 k2 (wrap64 (x3_2 + 1)) a0_0 a0_1 l0_2))) = some r := by rw [if_pos rfl] at H; exact H
            clear H
            have H := H1
            clear H1
            by_cases c59 : (((rd_T71 l0_2 x3_2).f3).size : Int) > 64
            ·
             rw [if_pos c59] at H
             have c59b0 : decide (64 < (((rd_T71 l0_2 x3_2).f3).size : Int)) = true := decide_eq_true c59
             have c59b1 : decide (64 < ((rd_T71 l0_2 x3_2).f3).size) = true := decide_eq_true (by omega)
             clear c59
             obtain rfl := Option.some.inj H
             have hcz60_0 := bcq_5 BK162.out 0
             have hcz60_1 := bcq_5 BK162.out 1
             have hcz60_2 := bcq_5 BK162.out 2
             have hfz60_0 := blk_frozen BK162.out 0
             have hfz60_1 := blk_frozen BK162.out 1
             have hfz60_2 := blk_frozen BK162.out 2
             have p165 : 0 ≤ (x3_2 : Int) := of_decide_eq_true zb3_5
             have q165 : x3_2 < (l0_2.length : Int) := of_decide_eq_true zb3_5
             obtain ⟨ad165, e165, hx165_0, hx165_1, hx165_2, hx165_3⟩ := at_T71 HR0_2.out x3_2 p165 q165
             cases e165
             replace hx165_0 := (HB.out.cell (World.block_lt_of_cell? w _ hx165_0)).trans hx165_0
             replace hx165_1 := (HB.out.cell (World.block_lt_of_cell? w _ hx165_1)).trans hx165_1
             replace hx165_2 := (HB.out.cell (World.block_lt_of_cell? w _ hx165_2)).trans hx165_2
             replace hx165_3 := (HB.out.cell (World.block_lt_of_cell? w _ hx165_3)).trans hx165_3
             replace p165 := eq_true p165
             replace q165 := eq_true q165
             try go_wp2_with (first | ((with_reducible refine gate_dst (N := 4) rfl ?_); (try (refine gate_guard (by rfl) ?_; dsimp only)); refine box_event ?hg (N := 4) ?hd (cs := #[.string (⟨#[]⟩ : ByteArray), .int .i64 0, .int .i64 0, .string (⟨#[]⟩ : ByteArray)]) (t := 71) ?hr ?_; (case hd => rfl); (case hg => rfl); (case hr => first | (go_simp; done) | (go_simp; rfl)); intro gb166 hg w61 hbox hb; have n0_ := Aside0.mk (blk_below (g := gb162) (o := .cells #[.string a0_0, .int .i64 a0_1, .slice (some ad165) l0_2.length c0_2] 40 (0, 0)) zb4_5 hb); have n1_ := Aside0.mk (below_step zb5_5 hb); have n2_ := Aside0.mk (hbox); have n3_ := Aside0.mk ((zb6_5 : w.heap.size ≤ gb166)); have n4_ := Aside0.mk ((zb6_5 : w.heap.size ≤ gb166)); have n5_ := Aside0.mk ((zb7_5 : gb162 ≠ gb166)); have n6_ := Aside0.mk ((zb8_5 : gb166 ≠ gb162)); clear BK162; clear HB; have BK162 := n0_; have HB := n1_; have BK166 := n2_; have GW166 := n3_; have GE166 := n4_; have NB162_166 := n5_; have NB166_162 := n6_; clear n0_ n1_ n2_ n3_ n4_ n5_ n6_; clear hb hbox hg; have hnb62 := NB166_162.out; have hnc62 := NB162_166.out; have hcz63_0 := bcq_5 BK166.out 0; have hcz63_1 := bcq_5 BK166.out 1; have hcz63_2 := bcq_5 BK166.out 2; have hcz63_3 := bcq_5 BK166.out 3; have hfz63_0 := blk_frozen BK166.out 0; have hfz63_1 := blk_frozen BK166.out 1; have hfz63_2 := blk_frozen BK166.out 2; have hfz63_3 := blk_frozen BK166.out 3))
             have n0_ : Aside0 (((((w61.setCell ⟨gb166, 0, none⟩ (.string ((rd_T71 l0_2 x3_2).f0))).setCell ⟨gb166, 1, none⟩ (.int .i64 ((rd_T71 l0_2 x3_2).f1))).setCell ⟨gb166, 2, none⟩ (.int .i64 ((rd_T71 l0_2 x3_2).f2))).setCell ⟨gb166, 3, none⟩ (.string ((rd_T71 l0_2 x3_2).f3))).heap[gb162]? = some (.cells #[.string a0_0, .int .i64 a0_1, .slice (some ad165) l0_2.length c0_2] 40 (0, 0))) := ⟨by (with_reducible repeat (first | refine blk_drewN ?_ _ | refine blk_drew ?_ | refine blk_alloc ?_ _)); refine blk_far ?_ NB162_166.out _; (with_reducible repeat (first | refine blk_drewN ?_ _ | refine blk_drew ?_ | refine blk_alloc ?_ _)); refine blk_far ?_ NB162_166.out _; (with_reducible repeat (first | refine blk_drewN ?_ _ | refine blk_drew ?_ | refine blk_alloc ?_ _)); refine blk_far ?_ NB162_166.out _; (with_reducible repeat (first | refine blk_drewN ?_ _ | refine blk_drew ?_ | refine blk_alloc ?_ _)); refine blk_far ?_ NB162_166.out _; (with_reducible repeat (first | refine blk_drewN ?_ _ | refine blk_drew ?_ | refine blk_alloc ?_ _)); exact BK162.out⟩
             have n1_ : Aside0 (((((w61.setCell ⟨gb166, 0, none⟩ (.string ((rd_T71 l0_2 x3_2).f0))).setCell ⟨gb166, 1, none⟩ (.int .i64 ((rd_T71 l0_2 x3_2).f1))).setCell ⟨gb166, 2, none⟩ (.int .i64 ((rd_T71 l0_2 x3_2).f2))).setCell ⟨gb166, 3, none⟩ (.string ((rd_T71 l0_2 x3_2).f3))).heap[gb166]? = some (.cells #[.string ((rd_T71 l0_2 x3_2).f0), .int .i64 ((rd_T71 l0_2 x3_2).f1), .int .i64 ((rd_T71 l0_2 x3_2).f2), .string ((rd_T71 l0_2 x3_2).f3)] 71 (0, 0))) := ⟨by (with_reducible repeat (first | refine blk_drewN ?_ _ | refine blk_drew ?_ | refine blk_alloc ?_ _)); refine blk_put (cs := #[.string ((rd_T71 l0_2 x3_2).f0), .int .i64 ((rd_T71 l0_2 x3_2).f1), .int .i64 ((rd_T71 l0_2 x3_2).f2), .string (⟨#[]⟩ : ByteArray)]) ?_ 3 _ rfl; (with_reducible repeat (first | refine blk_drewN ?_ _ | refine blk_drew ?_ | refine blk_alloc ?_ _)); refine blk_put (cs := #[.string ((rd_T71 l0_2 x3_2).f0), .int .i64 ((rd_T71 l0_2 x3_2).f1), .int .i64 0, .string (⟨#[]⟩ : ByteArray)]) ?_ 2 _ rfl; (with_reducible repeat (first | refine blk_drewN ?_ _ | refine blk_drew ?_ | refine blk_alloc ?_ _)); refine blk_put (cs := #[.string ((rd_T71 l0_2 x3_2).f0), .int .i64 0, .int .i64 0, .string (⟨#[]⟩ : ByteArray)]) ?_ 1 _ rfl; (with_reducible repeat (first | refine blk_drewN ?_ _ | refine blk_drew ?_ | refine blk_alloc ?_ _)); refine blk_put (cs := #[.string (⟨#[]⟩ : ByteArray), .int .i64 0, .int .i64 0, .string (⟨#[]⟩ : ByteArray)]) ?_ 0 _ rfl; (with_reducible repeat (first | refine blk_drewN ?_ _ | refine blk_drew ?_ | refine blk_alloc ?_ _)); exact BK166.out⟩
             have n2_ : Aside0 (Below w.heap.size w ((((w61.setCell ⟨gb166, 0, none⟩ (.string ((rd_T71 l0_2 x3_2).f0))).setCell ⟨gb166, 1, none⟩ (.int .i64 ((rd_T71 l0_2 x3_2).f1))).setCell ⟨gb166, 2, none⟩ (.int .i64 ((rd_T71 l0_2 x3_2).f2))).setCell ⟨gb166, 3, none⟩ (.string ((rd_T71 l0_2 x3_2).f3)))) := ⟨by repeat (first | (with_reducible first | exact HB.out | apply below_alloc | apply pw_below_drewN | apply below_drew1 | refine below_set ?_ GE162.out | refine below_set ?_ GE166.out) | exact HB.out)⟩
             (try clear BK162)
             (try clear BK166)
             (try clear HB)
             generalize ((((w61.setCell ⟨gb166, 0, none⟩ (.string ((rd_T71 l0_2 x3_2).f0))).setCell ⟨gb166, 1, none⟩ (.int .i64 ((rd_T71 l0_2 x3_2).f1))).setCell ⟨gb166, 2, none⟩ (.int .i64 ((rd_T71 l0_2 x3_2).f2))).setCell ⟨gb166, 3, none⟩ (.string ((rd_T71 l0_2 x3_2).f3))) = w64 at n0_ n1_ n2_ ⊢
             have BK162 := n0_
             have BK166 := n1_
             have HB := n2_
             clear n0_ n1_ n2_
             have n0_ := Aside0.mk (blk_drew BK162.out)
             have n1_ := Aside0.mk (blk_drew BK166.out)
             have n2_ := Aside0.mk (below_drew1 HB.out)
             clear BK162
             clear BK166
             clear HB
             have BK162 := n0_
             have BK166 := n1_
             have HB := n2_
             clear n0_ n1_ n2_
             refine start_ (n := 50) (S := fun w' => w'.cell? ⟨gb166, 0, none⟩ = some (.string ((rd_T71 l0_2 x3_2).f0)) ∧ w'.cell? ⟨gb166, 1, none⟩ = some (.int .i64 ((rd_T71 l0_2 x3_2).f1)) ∧ w'.cell? ⟨gb166, 2, none⟩ = some (.int .i64 ((rd_T71 l0_2 x3_2).f2)) ∧ w'.cell? ⟨gb166, 3, none⟩ = some (.string ((rd_T71 l0_2 x3_2).f3)) ∧ w'.cell? ⟨gb162, 0, none⟩ = some (.string a0_0) ∧ w'.cell? ⟨gb162, 1, none⟩ = some (.int .i64 a0_1) ∧ w'.cell? ⟨gb162, 2, none⟩ = some (.slice (some ad165) l0_2.length c0_2)) (ds := []) zm0 (by kernel_rfl) rfl rfl ⟨(blk_cell BK166.out 0).trans rfl, (blk_cell BK166.out 1).trans rfl, (blk_cell BK166.out 2).trans rfl, (blk_cell BK166.out 3).trans rfl, (blk_cell BK162.out 0).trans rfl, (blk_cell BK162.out 1).trans rfl, (blk_cell BK162.out 2).trans rfl⟩ (fun hHeld => ?_); refine with_tabW spec_DialbackRight.tab7 spec_DialbackRight.bits7 (fun HT_ HW_ => ?_)
             generalize w64.drew = w65 at BK162 BK166 HB hHeld ⊢
             refine zp 0 (some 33) zm1 HT_ ?_
             refine take_ (i := 1) (N := some 34) (v := ?_) (a' := ?_) zm2 rfl rfl (take_ofW HT_.out HW_.out (by kernel_rfl)) (fun _ _ _ h => h) (Or.inl ⟨by rfl, ?_⟩) hHeld ?_ ?_
             rotate_left
             ·
              rintro w' ⟨s0, s1, s2, s3, s4, s5, s6⟩
              go_simp
              with_reducible rfl
             rotate_left
             ·
              simp only [Act.put, List.setIfInBounds_toArray, List.set_cons_zero, List.set_cons_succ, i64_w, i32_w]
              rfl
             refine one_ (i := 2) (N := some 35) zm3 rfl rfl (one_of HT_.out (by kernel_rfl)) (by decide) (fun K hK => ?_)
             refine goes_ Tryd.func46 (by kernel_rfl) rfl #[.string ((rd_T71 l0_2 x3_2).f0)] (by rfl) rfl rfl zb1_5 ?_
             with_reducible refine (spec_l05Domain.calls k2 ((rd_T71 l0_2 x3_2).f0) true _ A14.out).mono ?_
             rintro e w' ⟨rfl, ⟨nd, rfl⟩⟩
             refine ⟨_, rfl, ?_⟩
             refine hK.out _ _ ⟨(blk_cell BK166.out 0).trans rfl, (blk_cell BK166.out 1).trans rfl, (blk_cell BK166.out 2).trans rfl, (blk_cell BK166.out 3).trans rfl, (blk_cell BK162.out 0).trans rfl, (blk_cell BK162.out 1).trans rfl, (blk_cell BK162.out 2).trans rfl⟩ (fun hHeld => ?_)
             clear hK K
             refine norm_ (a' := ?_) ?_ ?_
             rotate_left
             ·
              show Act.put _ (some 35) _ = _
              simp only [Act.put, List.setIfInBounds_toArray, List.set_cons_zero, List.set_cons_succ, i64_w, i32_w]
              rfl
             refine zp 3 (some 36) zm4 HT_ ?_
             refine zp 4 (some 37) zm5 HT_ ?_
             refine zp 5 (some 38) zm6 HT_ ?_
             refine zp 7 (some 40) zm7 HT_ ?_
             refine take_ (i := 6) (N := some 39) (v := ?_) (a' := ?_) zm8 rfl rfl (take_ofW HT_.out HW_.out (by kernel_rfl)) (fun _ _ _ h => h) (Or.inl ⟨by rfl, ?_⟩) hHeld ?_ ?_
             rotate_left
             ·
              rintro w' ⟨s0, s1, s2, s3, s4, s5, s6⟩
              go_simp
              with_reducible rfl
             rotate_left
             ·
              simp only [Act.put, List.setIfInBounds_toArray, List.set_cons_zero, List.set_cons_succ, i64_w, i32_w]
              rfl
             refine take_ (i := 8) (N := some 41) (v := ?_) (a' := ?_) zm9 rfl rfl (take_ofW HT_.out HW_.out (by kernel_rfl)) (fun _ _ _ h => h) (Or.inl ⟨by rfl, ?_⟩) hHeld ?_ ?_
             rotate_left
             ·
              rintro w' ⟨s0, s1, s2, s3, s4, s5, s6⟩
              go_simp
              with_reducible rfl
             rotate_left
             ·
              simp only [Act.put, List.setIfInBounds_toArray, List.set_cons_zero, List.set_cons_succ, i64_w, i32_w]
              rfl
             refine zp 9 (some 42) zm10 HT_ ?_
             refine one_ (i := 10) (N := some 43) zm11 rfl rfl (one_of HT_.out (by kernel_rfl)) (by decide) (fun K hK => ?_)
             refine goes_ Tryd.func47 (by kernel_rfl) rfl #[.int .i64 ((rd_T71 l0_2 x3_2).f1), .int .i64 1, .int .i64 (wrap64 (a0_1 - 1))] (by rfl) rfl rfl zb1_5 ?_
             with_reducible refine (spec_l03Is.calls ((rd_T71 l0_2 x3_2).f1) 1 (wrap64 (a0_1 - 1)) true _ A16.out).mono ?_
             rintro e w' ⟨rfl, ⟨nd, rfl⟩⟩
             refine ⟨_, rfl, ?_⟩
             refine hK.out _ _ ⟨(blk_cell BK166.out 0).trans rfl, (blk_cell BK166.out 1).trans rfl, (blk_cell BK166.out 2).trans rfl, (blk_cell BK166.out 3).trans rfl, (blk_cell BK162.out 0).trans rfl, (blk_cell BK162.out 1).trans rfl, (blk_cell BK162.out 2).trans rfl⟩ (fun hHeld => ?_)
             clear hK K
             refine norm_ (a' := ?_) ?_ ?_
             rotate_left
             ·
              show Act.put _ (some 43) _ = _
              simp only [Act.put, List.setIfInBounds_toArray, List.set_cons_zero, List.set_cons_succ, i64_w, i32_w]
              rfl
             refine zp 11 (some 44) zm12 HT_ ?_
             refine zp 12 (some 45) zm13 HT_ ?_
             refine zp 13 (some 46) zm14 HT_ ?_
             refine zp 14 (some 47) zm15 HT_ ?_
             refine zp 15 (some 48) zm16 HT_ ?_
             refine zp 16 (some 49) zm17 HT_ ?_
             refine zu 17 (some 50) zm18 HT_ ?_
             refine zu 18 (some 51) zm53 HT_ ?_
             refine zu 19 (some 52) zm54 HT_ ?_
             refine zu 20 (some 53) zm55 HT_ ?_
             refine zu 21 (some 54) zm56 HT_ ?_
             refine zu 22 (some 55) zm57 HT_ ?_
             refine zu 23 (some 56) zm58 HT_ ?_
             refine zu 24 (some 57) zm25 HT_ ?_
             refine zu 25 (some 58) zm26 HT_ ?_
             refine zu 26 (some 59) zm27 HT_ ?_
             refine zp 27 (some 60) zm28 HT_ ?_
             refine zp 28 (some 61) zm29 HT_ ?_
             refine zp 29 (some 62) zm30 HT_ ?_
             refine zp 30 (some 63) zm31 HT_ ?_
             refine take_ (i := 31) (N := some 64) (v := ?_) (a' := ?_) zm32 rfl rfl (take_ofW HT_.out HW_.out (by kernel_rfl)) (fun _ _ _ h => h) (Or.inl ⟨by rfl, ?_⟩) hHeld ?_ ?_
             rotate_left
             ·
              rintro w' ⟨s0, s1, s2, s3, s4, s5, s6⟩
              go_simp
              with_reducible rfl
             rotate_left
             ·
              simp only [Act.put, List.setIfInBounds_toArray, List.set_cons_zero, List.set_cons_succ, i64_w, i32_w]
              rfl
             refine one_ (i := 32) (N := some 65) zm33 rfl rfl (one_of HT_.out (by kernel_rfl)) (by decide) (fun K hK => ?_)
             refine goes_ Tryd.func47 (by kernel_rfl) rfl #[.int .i64 ((rd_T71 l0_2 x3_2).f2), .int .i64 0, .int .i64 3] (by rfl) rfl rfl zb1_5 ?_
             with_reducible refine (spec_l03Is.calls ((rd_T71 l0_2 x3_2).f2) 0 3 true _ A57.out).mono ?_
             rintro e w' ⟨rfl, ⟨nd, rfl⟩⟩
             refine ⟨_, rfl, ?_⟩
             refine hK.out _ _ ⟨(blk_cell BK166.out 0).trans rfl, (blk_cell BK166.out 1).trans rfl, (blk_cell BK166.out 2).trans rfl, (blk_cell BK166.out 3).trans rfl, (blk_cell BK162.out 0).trans rfl, (blk_cell BK162.out 1).trans rfl, (blk_cell BK162.out 2).trans rfl⟩ (fun hHeld => ?_)
             clear hK K
             refine norm_ (a' := ?_) ?_ ?_
             rotate_left
             ·
              show Act.put _ (some 65) _ = _
              simp only [Act.put, List.setIfInBounds_toArray, List.set_cons_zero, List.set_cons_succ, i64_w, i32_w]
              rfl
             refine zp 33 (some 66) zm34 HT_ ?_
             refine zp 34 (some 67) zm35 HT_ ?_
             refine zp 35 (some 68) zm36 HT_ ?_
             refine zp 36 (some 69) zm37 HT_ ?_
             refine take_ (i := 37) (N := some 70) (v := ?_) (a' := ?_) zm38 rfl rfl (take_ofW HT_.out HW_.out (by kernel_rfl)) (fun _ _ _ h => h) (Or.inl ⟨by rfl, ?_⟩) hHeld ?_ ?_
             rotate_left
             ·
              rintro w' ⟨s0, s1, s2, s3, s4, s5, s6⟩
              go_simp
              with_reducible rfl
             rotate_left
             ·
              simp only [Act.put, List.setIfInBounds_toArray, List.set_cons_zero, List.set_cons_succ, i64_w, i32_w]
              rfl
             refine zp 38 (some 71) zm39 HT_ ?_
             refine zp 39 (some 72) zm40 HT_ ?_
             refine zp 40 (some 73) zm41 HT_ ?_
             refine zp 41 (some 74) zm42 HT_ ?_
             refine zu 42 (some 75) zm43 HT_ ?_
             refine zu 43 (some 76) zm44 HT_ ?_
             refine zu 44 (some 77) zm45 HT_ ?_
             refine zu 45 (some 78) zm46 HT_ ?_
             refine zu 46 (some 79) zm47 HT_ ?_
             refine zu 47 (some 80) zm48 HT_ ?_
             refine zu 48 (some 81) zm49 HT_ ?_
             refine zp 49 (some 82) zm50 HT_ ?_
             refine done_ (done_of HT_.out (by kernel_rfl)) ?_
             try go_wp2
             go_ret
             exact ⟨by first | rfl | (simp [errW_none, errW_some] <;> rfl) | (simp [*, errW_none, errW_some] <;> rfl), by repeat (first | (with_reducible first | exact HB.out | apply below_alloc | apply pw_below_drewN | apply below_drew1 | refine below_set ?_ GE162.out | refine below_set ?_ GE166.out) | exact HB.out)⟩
            ·
             rw [if_neg c59] at H
             have c59b0 : decide (64 < (((rd_T71 l0_2 x3_2).f3).size : Int)) = false := decide_eq_false c59
             have c59b1 : decide (64 < ((rd_T71 l0_2 x3_2).f3).size) = false := decide_eq_false (by omega)
             clear c59
             by_cases c66 : ((((rd_T71 l0_2 x3_2).f3).toList == ([] : List UInt8)) != (((rd_T71 l0_2 x3_2).f2) == 0)) = true
             ·
              rw [if_pos c66] at H
              have c66b0 : ((((rd_T71 l0_2 x3_2).f3).toList == ([] : List UInt8)) != (((rd_T71 l0_2 x3_2).f2) == 0)) = true := c66
              try have c66b9 : (((rd_T71 l0_2 x3_2).f3).toList.isEmpty == (((rd_T71 l0_2 x3_2).f2) == 0)) = false := by have hem_ : ∀ l : List UInt8, l.isEmpty = (l == []) := (fun l => by cases l <;> rfl); simp only [hem_]; have h_ : (!((((rd_T71 l0_2 x3_2).f3).toList == ([] : List UInt8)) == (((rd_T71 l0_2 x3_2).f2) == 0))) = true := c66b0; generalize ((((rd_T71 l0_2 x3_2).f3).toList == ([] : List UInt8)) == (((rd_T71 l0_2 x3_2).f2) == 0)) = q_ at h_ ⊢; cases q_ <;> first | rfl | cases h_
              (try (have c66b1 : decide ((((rd_T71 l0_2 x3_2).f3).toList == ([] : List UInt8)) = (((rd_T71 l0_2 x3_2).f2) == 0)) = false := by simpa using c66))
              (try (have c66b2 : ((((rd_T71 l0_2 x3_2).f3).toList == ([] : List UInt8)) == (((rd_T71 l0_2 x3_2).f2) == 0)) = false := by simpa using c66))
              (try (have c66b3 : ¬ ((((rd_T71 l0_2 x3_2).f3).toList == ([] : List UInt8)) = (((rd_T71 l0_2 x3_2).f2) == 0)) := by simpa using c66))
              clear c66
              obtain rfl := Option.some.inj H
              have hcz67_0 := bcq_5 BK162.out 0
              have hcz67_1 := bcq_5 BK162.out 1
              have hcz67_2 := bcq_5 BK162.out 2
              have hfz67_0 := blk_frozen BK162.out 0
              have hfz67_1 := blk_frozen BK162.out 1
              have hfz67_2 := blk_frozen BK162.out 2
              have p165 : 0 ≤ (x3_2 : Int) := of_decide_eq_true zb3_5
              have q165 : x3_2 < (l0_2.length : Int) := of_decide_eq_true zb3_5
              obtain ⟨ad165, e165, hx165_0, hx165_1, hx165_2, hx165_3⟩ := at_T71 HR0_2.out x3_2 p165 q165
              cases e165
              replace hx165_0 := (HB.out.cell (World.block_lt_of_cell? w _ hx165_0)).trans hx165_0
              replace hx165_1 := (HB.out.cell (World.block_lt_of_cell? w _ hx165_1)).trans hx165_1
              replace hx165_2 := (HB.out.cell (World.block_lt_of_cell? w _ hx165_2)).trans hx165_2
              replace hx165_3 := (HB.out.cell (World.block_lt_of_cell? w _ hx165_3)).trans hx165_3
              replace p165 := eq_true p165
              replace q165 := eq_true q165
              try go_wp2_with (first | ((with_reducible refine gate_dst (N := 4) rfl ?_); (try (refine gate_guard (by rfl) ?_; dsimp only)); refine box_event ?hg (N := 4) ?hd (cs := #[.string (⟨#[]⟩ : ByteArray), .int .i64 0, .int .i64 0, .string (⟨#[]⟩ : ByteArray)]) (t := 71) ?hr ?_; (case hd => rfl); (case hg => rfl); (case hr => first | (go_simp; done) | (go_simp; rfl)); intro gb166 hg w68 hbox hb; have n0_ := Aside0.mk (blk_below (g := gb162) (o := .cells #[.string a0_0, .int .i64 a0_1, .slice (some ad165) l0_2.length c0_2] 40 (0, 0)) zb4_5 hb); have n1_ := Aside0.mk (below_step zb5_5 hb); have n2_ := Aside0.mk (hbox); have n3_ := Aside0.mk ((zb6_5 : w.heap.size ≤ gb166)); have n4_ := Aside0.mk ((zb6_5 : w.heap.size ≤ gb166)); have n5_ := Aside0.mk ((zb7_5 : gb162 ≠ gb166)); have n6_ := Aside0.mk ((zb8_5 : gb166 ≠ gb162)); clear BK162; clear HB; have BK162 := n0_; have HB := n1_; have BK166 := n2_; have GW166 := n3_; have GE166 := n4_; have NB162_166 := n5_; have NB166_162 := n6_; clear n0_ n1_ n2_ n3_ n4_ n5_ n6_; clear hb hbox hg; have hnb69 := NB166_162.out; have hnc69 := NB162_166.out; have hcz70_0 := bcq_5 BK166.out 0; have hcz70_1 := bcq_5 BK166.out 1; have hcz70_2 := bcq_5 BK166.out 2; have hcz70_3 := bcq_5 BK166.out 3; have hfz70_0 := blk_frozen BK166.out 0; have hfz70_1 := blk_frozen BK166.out 1; have hfz70_2 := blk_frozen BK166.out 2; have hfz70_3 := blk_frozen BK166.out 3))
              have n0_ : Aside0 (((((w68.setCell ⟨gb166, 0, none⟩ (.string ((rd_T71 l0_2 x3_2).f0))).setCell ⟨gb166, 1, none⟩ (.int .i64 ((rd_T71 l0_2 x3_2).f1))).setCell ⟨gb166, 2, none⟩ (.int .i64 ((rd_T71 l0_2 x3_2).f2))).setCell ⟨gb166, 3, none⟩ (.string ((rd_T71 l0_2 x3_2).f3))).heap[gb162]? = some (.cells #[.string a0_0, .int .i64 a0_1, .slice (some ad165) l0_2.length c0_2] 40 (0, 0))) := ⟨by (with_reducible repeat (first | refine blk_drewN ?_ _ | refine blk_drew ?_ | refine blk_alloc ?_ _)); refine blk_far ?_ NB162_166.out _; (with_reducible repeat (first | refine blk_drewN ?_ _ | refine blk_drew ?_ | refine blk_alloc ?_ _)); refine blk_far ?_ NB162_166.out _; (with_reducible repeat (first | refine blk_drewN ?_ _ | refine blk_drew ?_ | refine blk_alloc ?_ _)); refine blk_far ?_ NB162_166.out _; (with_reducible repeat (first | refine blk_drewN ?_ _ | refine blk_drew ?_ | refine blk_alloc ?_ _)); refine blk_far ?_ NB162_166.out _; (with_reducible repeat (first | refine blk_drewN ?_ _ | refine blk_drew ?_ | refine blk_alloc ?_ _)); exact BK162.out⟩
              have n1_ : Aside0 (((((w68.setCell ⟨gb166, 0, none⟩ (.string ((rd_T71 l0_2 x3_2).f0))).setCell ⟨gb166, 1, none⟩ (.int .i64 ((rd_T71 l0_2 x3_2).f1))).setCell ⟨gb166, 2, none⟩ (.int .i64 ((rd_T71 l0_2 x3_2).f2))).setCell ⟨gb166, 3, none⟩ (.string ((rd_T71 l0_2 x3_2).f3))).heap[gb166]? = some (.cells #[.string ((rd_T71 l0_2 x3_2).f0), .int .i64 ((rd_T71 l0_2 x3_2).f1), .int .i64 ((rd_T71 l0_2 x3_2).f2), .string ((rd_T71 l0_2 x3_2).f3)] 71 (0, 0))) := ⟨by (with_reducible repeat (first | refine blk_drewN ?_ _ | refine blk_drew ?_ | refine blk_alloc ?_ _)); refine blk_put (cs := #[.string ((rd_T71 l0_2 x3_2).f0), .int .i64 ((rd_T71 l0_2 x3_2).f1), .int .i64 ((rd_T71 l0_2 x3_2).f2), .string (⟨#[]⟩ : ByteArray)]) ?_ 3 _ rfl; (with_reducible repeat (first | refine blk_drewN ?_ _ | refine blk_drew ?_ | refine blk_alloc ?_ _)); refine blk_put (cs := #[.string ((rd_T71 l0_2 x3_2).f0), .int .i64 ((rd_T71 l0_2 x3_2).f1), .int .i64 0, .string (⟨#[]⟩ : ByteArray)]) ?_ 2 _ rfl; (with_reducible repeat (first | refine blk_drewN ?_ _ | refine blk_drew ?_ | refine blk_alloc ?_ _)); refine blk_put (cs := #[.string ((rd_T71 l0_2 x3_2).f0), .int .i64 0, .int .i64 0, .string (⟨#[]⟩ : ByteArray)]) ?_ 1 _ rfl; (with_reducible repeat (first | refine blk_drewN ?_ _ | refine blk_drew ?_ | refine blk_alloc ?_ _)); refine blk_put (cs := #[.string (⟨#[]⟩ : ByteArray), .int .i64 0, .int .i64 0, .string (⟨#[]⟩ : ByteArray)]) ?_ 0 _ rfl; (with_reducible repeat (first | refine blk_drewN ?_ _ | refine blk_drew ?_ | refine blk_alloc ?_ _)); exact BK166.out⟩
              have n2_ : Aside0 (Below w.heap.size w ((((w68.setCell ⟨gb166, 0, none⟩ (.string ((rd_T71 l0_2 x3_2).f0))).setCell ⟨gb166, 1, none⟩ (.int .i64 ((rd_T71 l0_2 x3_2).f1))).setCell ⟨gb166, 2, none⟩ (.int .i64 ((rd_T71 l0_2 x3_2).f2))).setCell ⟨gb166, 3, none⟩ (.string ((rd_T71 l0_2 x3_2).f3)))) := ⟨by repeat (first | (with_reducible first | exact HB.out | apply below_alloc | apply pw_below_drewN | apply below_drew1 | refine below_set ?_ GE162.out | refine below_set ?_ GE166.out) | exact HB.out)⟩
              (try clear BK162)
              (try clear BK166)
              (try clear HB)
              generalize ((((w68.setCell ⟨gb166, 0, none⟩ (.string ((rd_T71 l0_2 x3_2).f0))).setCell ⟨gb166, 1, none⟩ (.int .i64 ((rd_T71 l0_2 x3_2).f1))).setCell ⟨gb166, 2, none⟩ (.int .i64 ((rd_T71 l0_2 x3_2).f2))).setCell ⟨gb166, 3, none⟩ (.string ((rd_T71 l0_2 x3_2).f3))) = w71 at n0_ n1_ n2_ ⊢
              have BK162 := n0_
              have BK166 := n1_
              have HB := n2_
              clear n0_ n1_ n2_
              have n0_ := Aside0.mk (blk_drew BK162.out)
              have n1_ := Aside0.mk (blk_drew BK166.out)
              have n2_ := Aside0.mk (below_drew1 HB.out)
              clear BK162
              clear BK166
              clear HB
              have BK162 := n0_
              have BK166 := n1_
              have HB := n2_
              clear n0_ n1_ n2_
              refine start_ (n := 50) (S := fun w' => w'.cell? ⟨gb166, 0, none⟩ = some (.string ((rd_T71 l0_2 x3_2).f0)) ∧ w'.cell? ⟨gb166, 1, none⟩ = some (.int .i64 ((rd_T71 l0_2 x3_2).f1)) ∧ w'.cell? ⟨gb166, 2, none⟩ = some (.int .i64 ((rd_T71 l0_2 x3_2).f2)) ∧ w'.cell? ⟨gb166, 3, none⟩ = some (.string ((rd_T71 l0_2 x3_2).f3)) ∧ w'.cell? ⟨gb162, 0, none⟩ = some (.string a0_0) ∧ w'.cell? ⟨gb162, 1, none⟩ = some (.int .i64 a0_1) ∧ w'.cell? ⟨gb162, 2, none⟩ = some (.slice (some ad165) l0_2.length c0_2)) (ds := []) zm0 (by kernel_rfl) rfl rfl ⟨(blk_cell BK166.out 0).trans rfl, (blk_cell BK166.out 1).trans rfl, (blk_cell BK166.out 2).trans rfl, (blk_cell BK166.out 3).trans rfl, (blk_cell BK162.out 0).trans rfl, (blk_cell BK162.out 1).trans rfl, (blk_cell BK162.out 2).trans rfl⟩ (fun hHeld => ?_); refine with_tabW spec_DialbackRight.tab7 spec_DialbackRight.bits7 (fun HT_ HW_ => ?_)
              generalize w71.drew = w72 at BK162 BK166 HB hHeld ⊢
              refine zp 0 (some 33) zm1 HT_ ?_
              refine take_ (i := 1) (N := some 34) (v := ?_) (a' := ?_) zm2 rfl rfl (take_ofW HT_.out HW_.out (by kernel_rfl)) (fun _ _ _ h => h) (Or.inl ⟨by rfl, ?_⟩) hHeld ?_ ?_
              rotate_left
              ·
               rintro w' ⟨s0, s1, s2, s3, s4, s5, s6⟩
               go_simp
               with_reducible rfl
              rotate_left
              ·
               simp only [Act.put, List.setIfInBounds_toArray, List.set_cons_zero, List.set_cons_succ, i64_w, i32_w]
               rfl
              refine one_ (i := 2) (N := some 35) zm3 rfl rfl (one_of HT_.out (by kernel_rfl)) (by decide) (fun K hK => ?_)
              refine goes_ Tryd.func46 (by kernel_rfl) rfl #[.string ((rd_T71 l0_2 x3_2).f0)] (by rfl) rfl rfl zb1_5 ?_
              with_reducible refine (spec_l05Domain.calls k2 ((rd_T71 l0_2 x3_2).f0) true _ A14.out).mono ?_
              rintro e w' ⟨rfl, ⟨nd, rfl⟩⟩
              refine ⟨_, rfl, ?_⟩
              refine hK.out _ _ ⟨(blk_cell BK166.out 0).trans rfl, (blk_cell BK166.out 1).trans rfl, (blk_cell BK166.out 2).trans rfl, (blk_cell BK166.out 3).trans rfl, (blk_cell BK162.out 0).trans rfl, (blk_cell BK162.out 1).trans rfl, (blk_cell BK162.out 2).trans rfl⟩ (fun hHeld => ?_)
              clear hK K
              refine norm_ (a' := ?_) ?_ ?_
              rotate_left
              ·
               show Act.put _ (some 35) _ = _
               simp only [Act.put, List.setIfInBounds_toArray, List.set_cons_zero, List.set_cons_succ, i64_w, i32_w]
               rfl
              refine zp 3 (some 36) zm4 HT_ ?_
              refine zp 4 (some 37) zm5 HT_ ?_
              refine zp 5 (some 38) zm6 HT_ ?_
              refine zp 7 (some 40) zm7 HT_ ?_
              refine take_ (i := 6) (N := some 39) (v := ?_) (a' := ?_) zm8 rfl rfl (take_ofW HT_.out HW_.out (by kernel_rfl)) (fun _ _ _ h => h) (Or.inl ⟨by rfl, ?_⟩) hHeld ?_ ?_
              rotate_left
              ·
               rintro w' ⟨s0, s1, s2, s3, s4, s5, s6⟩
               go_simp
               with_reducible rfl
              rotate_left
              ·
               simp only [Act.put, List.setIfInBounds_toArray, List.set_cons_zero, List.set_cons_succ, i64_w, i32_w]
               rfl
              refine take_ (i := 8) (N := some 41) (v := ?_) (a' := ?_) zm9 rfl rfl (take_ofW HT_.out HW_.out (by kernel_rfl)) (fun _ _ _ h => h) (Or.inl ⟨by rfl, ?_⟩) hHeld ?_ ?_
              rotate_left
              ·
               rintro w' ⟨s0, s1, s2, s3, s4, s5, s6⟩
               go_simp
               with_reducible rfl
              rotate_left
              ·
               simp only [Act.put, List.setIfInBounds_toArray, List.set_cons_zero, List.set_cons_succ, i64_w, i32_w]
               rfl
              refine zp 9 (some 42) zm10 HT_ ?_
              refine one_ (i := 10) (N := some 43) zm11 rfl rfl (one_of HT_.out (by kernel_rfl)) (by decide) (fun K hK => ?_)
              refine goes_ Tryd.func47 (by kernel_rfl) rfl #[.int .i64 ((rd_T71 l0_2 x3_2).f1), .int .i64 1, .int .i64 (wrap64 (a0_1 - 1))] (by rfl) rfl rfl zb1_5 ?_
              with_reducible refine (spec_l03Is.calls ((rd_T71 l0_2 x3_2).f1) 1 (wrap64 (a0_1 - 1)) true _ A16.out).mono ?_
              rintro e w' ⟨rfl, ⟨nd, rfl⟩⟩
              refine ⟨_, rfl, ?_⟩
              refine hK.out _ _ ⟨(blk_cell BK166.out 0).trans rfl, (blk_cell BK166.out 1).trans rfl, (blk_cell BK166.out 2).trans rfl, (blk_cell BK166.out 3).trans rfl, (blk_cell BK162.out 0).trans rfl, (blk_cell BK162.out 1).trans rfl, (blk_cell BK162.out 2).trans rfl⟩ (fun hHeld => ?_)
              clear hK K
              refine norm_ (a' := ?_) ?_ ?_
              rotate_left
              ·
               show Act.put _ (some 43) _ = _
               simp only [Act.put, List.setIfInBounds_toArray, List.set_cons_zero, List.set_cons_succ, i64_w, i32_w]
               rfl
              refine zp 11 (some 44) zm12 HT_ ?_
              refine zp 12 (some 45) zm13 HT_ ?_
              refine zp 13 (some 46) zm14 HT_ ?_
              refine zp 14 (some 47) zm15 HT_ ?_
              refine zp 15 (some 48) zm16 HT_ ?_
              refine zp 16 (some 49) zm17 HT_ ?_
              refine zu 17 (some 50) zm18 HT_ ?_
              refine zu 18 (some 51) zm53 HT_ ?_
              refine zu 19 (some 52) zm54 HT_ ?_
              refine zu 20 (some 53) zm55 HT_ ?_
              refine zu 21 (some 54) zm56 HT_ ?_
              refine zu 22 (some 55) zm57 HT_ ?_
              refine zu 23 (some 56) zm58 HT_ ?_
              refine zu 24 (some 57) zm25 HT_ ?_
              refine zu 25 (some 58) zm26 HT_ ?_
              refine zu 26 (some 59) zm27 HT_ ?_
              refine zp 27 (some 60) zm28 HT_ ?_
              refine zp 28 (some 61) zm29 HT_ ?_
              refine zp 29 (some 62) zm30 HT_ ?_
              refine zp 30 (some 63) zm31 HT_ ?_
              refine take_ (i := 31) (N := some 64) (v := ?_) (a' := ?_) zm32 rfl rfl (take_ofW HT_.out HW_.out (by kernel_rfl)) (fun _ _ _ h => h) (Or.inl ⟨by rfl, ?_⟩) hHeld ?_ ?_
              rotate_left
              ·
               rintro w' ⟨s0, s1, s2, s3, s4, s5, s6⟩
               go_simp
               with_reducible rfl
              rotate_left
              ·
               simp only [Act.put, List.setIfInBounds_toArray, List.set_cons_zero, List.set_cons_succ, i64_w, i32_w]
               rfl
              refine one_ (i := 32) (N := some 65) zm33 rfl rfl (one_of HT_.out (by kernel_rfl)) (by decide) (fun K hK => ?_)
              refine goes_ Tryd.func47 (by kernel_rfl) rfl #[.int .i64 ((rd_T71 l0_2 x3_2).f2), .int .i64 0, .int .i64 3] (by rfl) rfl rfl zb1_5 ?_
              with_reducible refine (spec_l03Is.calls ((rd_T71 l0_2 x3_2).f2) 0 3 true _ A57.out).mono ?_
              rintro e w' ⟨rfl, ⟨nd, rfl⟩⟩
              refine ⟨_, rfl, ?_⟩
              refine hK.out _ _ ⟨(blk_cell BK166.out 0).trans rfl, (blk_cell BK166.out 1).trans rfl, (blk_cell BK166.out 2).trans rfl, (blk_cell BK166.out 3).trans rfl, (blk_cell BK162.out 0).trans rfl, (blk_cell BK162.out 1).trans rfl, (blk_cell BK162.out 2).trans rfl⟩ (fun hHeld => ?_)
              clear hK K
              refine norm_ (a' := ?_) ?_ ?_
              rotate_left
              ·
               show Act.put _ (some 65) _ = _
               simp only [Act.put, List.setIfInBounds_toArray, List.set_cons_zero, List.set_cons_succ, i64_w, i32_w]
               rfl
              refine zp 33 (some 66) zm34 HT_ ?_
              refine zp 34 (some 67) zm35 HT_ ?_
              refine zp 35 (some 68) zm36 HT_ ?_
              refine zp 36 (some 69) zm37 HT_ ?_
              refine take_ (i := 37) (N := some 70) (v := ?_) (a' := ?_) zm38 rfl rfl (take_ofW HT_.out HW_.out (by kernel_rfl)) (fun _ _ _ h => h) (Or.inl ⟨by rfl, ?_⟩) hHeld ?_ ?_
              rotate_left
              ·
               rintro w' ⟨s0, s1, s2, s3, s4, s5, s6⟩
               go_simp
               with_reducible rfl
              rotate_left
              ·
               simp only [Act.put, List.setIfInBounds_toArray, List.set_cons_zero, List.set_cons_succ, i64_w, i32_w]
               rfl
              refine zp 38 (some 71) zm39 HT_ ?_
              refine zp 39 (some 72) zm40 HT_ ?_
              refine zp 40 (some 73) zm41 HT_ ?_
              refine zp 41 (some 74) zm42 HT_ ?_
              refine zp 42 (some 75) zm43 HT_ ?_
              refine zp 45 (some 78) zm51 HT_ ?_
              refine take_ (i := 43) (N := some 76) (v := ?_) (a' := ?_) zm52 rfl rfl (take_ofW HT_.out HW_.out (by kernel_rfl)) (fun _ _ _ h => h) (Or.inl ⟨by rfl, ?_⟩) hHeld ?_ ?_
              rotate_left
              ·
               rintro w' ⟨s0, s1, s2, s3, s4, s5, s6⟩
               go_simp
               with_reducible rfl
              rotate_left
              ·
               simp only [Act.put, List.setIfInBounds_toArray, List.set_cons_zero, List.set_cons_succ, i64_w, i32_w]
               rfl
              refine zp 44 (some 77) zm46 HT_ ?_
              refine take_ (i := 46) (N := some 79) (v := ?_) (a' := ?_) zm47 rfl rfl (take_ofW HT_.out HW_.out (by kernel_rfl)) (fun _ _ _ h => h) (Or.inl ⟨by rfl, ?_⟩) hHeld ?_ ?_
              rotate_left
              ·
               rintro w' ⟨s0, s1, s2, s3, s4, s5, s6⟩
               go_simp
               with_reducible rfl
              rotate_left
              ·
               simp only [Act.put, List.setIfInBounds_toArray, List.set_cons_zero, List.set_cons_succ, i64_w, i32_w]
               rfl
              refine zp 47 (some 80) zm48 HT_ ?_
              refine zp 48 (some 81) zm49 HT_ ?_
              refine zp 49 (some 82) zm50 HT_ ?_
              refine done_ (done_of HT_.out (by kernel_rfl)) ?_
              try go_wp2
              go_ret
              exact ⟨by first | rfl | (simp [errW_none, errW_some] <;> rfl) | (simp [*, errW_none, errW_some] <;> rfl), by repeat (first | (with_reducible first | exact HB.out | apply below_alloc | apply pw_below_drewN | apply below_drew1 | refine below_set ?_ GE162.out | refine below_set ?_ GE166.out) | exact HB.out)⟩
             ·
              rw [if_neg c66] at H
              have c66b0 : ((((rd_T71 l0_2 x3_2).f3).toList == ([] : List UInt8)) != (((rd_T71 l0_2 x3_2).f2) == 0)) = false := by simpa using c66
              try have c66b9 : (((rd_T71 l0_2 x3_2).f3).toList.isEmpty == (((rd_T71 l0_2 x3_2).f2) == 0)) = true := by have hem_ : ∀ l : List UInt8, l.isEmpty = (l == []) := (fun l => by cases l <;> rfl); simp only [hem_]; have h_ : (!((((rd_T71 l0_2 x3_2).f3).toList == ([] : List UInt8)) == (((rd_T71 l0_2 x3_2).f2) == 0))) = false := c66b0; generalize ((((rd_T71 l0_2 x3_2).f3).toList == ([] : List UInt8)) == (((rd_T71 l0_2 x3_2).f2) == 0)) = q_ at h_ ⊢; cases q_ <;> first | rfl | cases h_
              (try (have c66b1 : decide ((((rd_T71 l0_2 x3_2).f3).toList == ([] : List UInt8)) = (((rd_T71 l0_2 x3_2).f2) == 0)) = true := by simpa using c66))
              (try (have c66b2 : ((((rd_T71 l0_2 x3_2).f3).toList == ([] : List UInt8)) == (((rd_T71 l0_2 x3_2).f2) == 0)) = true := by simpa using c66))
              clear c66
              have H' := Aside0.mk H
              clear H
              have hcz73_0 := bcq_5 BK162.out 0
              have hcz73_1 := bcq_5 BK162.out 1
              have hcz73_2 := bcq_5 BK162.out 2
              have hfz73_0 := blk_frozen BK162.out 0
              have hfz73_1 := blk_frozen BK162.out 1
              have hfz73_2 := blk_frozen BK162.out 2
              have p165 : 0 ≤ (x3_2 : Int) := of_decide_eq_true zb3_5
              have q165 : x3_2 < (l0_2.length : Int) := of_decide_eq_true zb3_5
              obtain ⟨ad165, e165, hx165_0, hx165_1, hx165_2, hx165_3⟩ := at_T71 HR0_2.out x3_2 p165 q165
              cases e165
              replace hx165_0 := (HB.out.cell (World.block_lt_of_cell? w _ hx165_0)).trans hx165_0
              replace hx165_1 := (HB.out.cell (World.block_lt_of_cell? w _ hx165_1)).trans hx165_1
              replace hx165_2 := (HB.out.cell (World.block_lt_of_cell? w _ hx165_2)).trans hx165_2
              replace hx165_3 := (HB.out.cell (World.block_lt_of_cell? w _ hx165_3)).trans hx165_3
              replace p165 := eq_true p165
              replace q165 := eq_true q165
              try go_wp2_with (first | ((with_reducible refine gate_dst (N := 4) rfl ?_); (try (refine gate_guard (by rfl) ?_; dsimp only)); refine box_event ?hg (N := 4) ?hd (cs := #[.string (⟨#[]⟩ : ByteArray), .int .i64 0, .int .i64 0, .string (⟨#[]⟩ : ByteArray)]) (t := 71) ?hr ?_; (case hd => rfl); (case hg => rfl); (case hr => first | (go_simp; done) | (go_simp; rfl)); intro gb166 hg w74 hbox hb; have n0_ := Aside0.mk (blk_below (g := gb162) (o := .cells #[.string a0_0, .int .i64 a0_1, .slice (some ad165) l0_2.length c0_2] 40 (0, 0)) zb4_5 hb); have n1_ := Aside0.mk (below_step zb5_5 hb); have n2_ := Aside0.mk (hbox); have n3_ := Aside0.mk ((zb6_5 : w.heap.size ≤ gb166)); have n4_ := Aside0.mk ((zb6_5 : w.heap.size ≤ gb166)); have n5_ := Aside0.mk ((zb7_5 : gb162 ≠ gb166)); have n6_ := Aside0.mk ((zb8_5 : gb166 ≠ gb162)); clear BK162; clear HB; have BK162 := n0_; have HB := n1_; have BK166 := n2_; have GW166 := n3_; have GE166 := n4_; have NB162_166 := n5_; have NB166_162 := n6_; clear n0_ n1_ n2_ n3_ n4_ n5_ n6_; clear hb hbox hg; have hnb75 := NB166_162.out; have hnc75 := NB162_166.out; have hcz76_0 := bcq_5 BK166.out 0; have hcz76_1 := bcq_5 BK166.out 1; have hcz76_2 := bcq_5 BK166.out 2; have hcz76_3 := bcq_5 BK166.out 3; have hfz76_0 := blk_frozen BK166.out 0; have hfz76_1 := blk_frozen BK166.out 1; have hfz76_2 := blk_frozen BK166.out 2; have hfz76_3 := blk_frozen BK166.out 3))
              have n0_ : Aside0 (((((w74.setCell ⟨gb166, 0, none⟩ (.string ((rd_T71 l0_2 x3_2).f0))).setCell ⟨gb166, 1, none⟩ (.int .i64 ((rd_T71 l0_2 x3_2).f1))).setCell ⟨gb166, 2, none⟩ (.int .i64 ((rd_T71 l0_2 x3_2).f2))).setCell ⟨gb166, 3, none⟩ (.string ((rd_T71 l0_2 x3_2).f3))).heap[gb162]? = some (.cells #[.string a0_0, .int .i64 a0_1, .slice (some ad165) l0_2.length c0_2] 40 (0, 0))) := ⟨by (with_reducible repeat (first | refine blk_drewN ?_ _ | refine blk_drew ?_ | refine blk_alloc ?_ _)); refine blk_far ?_ NB162_166.out _; (with_reducible repeat (first | refine blk_drewN ?_ _ | refine blk_drew ?_ | refine blk_alloc ?_ _)); refine blk_far ?_ NB162_166.out _; (with_reducible repeat (first | refine blk_drewN ?_ _ | refine blk_drew ?_ | refine blk_alloc ?_ _)); refine blk_far ?_ NB162_166.out _; (with_reducible repeat (first | refine blk_drewN ?_ _ | refine blk_drew ?_ | refine blk_alloc ?_ _)); refine blk_far ?_ NB162_166.out _; (with_reducible repeat (first | refine blk_drewN ?_ _ | refine blk_drew ?_ | refine blk_alloc ?_ _)); exact BK162.out⟩
              have n1_ : Aside0 (((((w74.setCell ⟨gb166, 0, none⟩ (.string ((rd_T71 l0_2 x3_2).f0))).setCell ⟨gb166, 1, none⟩ (.int .i64 ((rd_T71 l0_2 x3_2).f1))).setCell ⟨gb166, 2, none⟩ (.int .i64 ((rd_T71 l0_2 x3_2).f2))).setCell ⟨gb166, 3, none⟩ (.string ((rd_T71 l0_2 x3_2).f3))).heap[gb166]? = some (.cells #[.string ((rd_T71 l0_2 x3_2).f0), .int .i64 ((rd_T71 l0_2 x3_2).f1), .int .i64 ((rd_T71 l0_2 x3_2).f2), .string ((rd_T71 l0_2 x3_2).f3)] 71 (0, 0))) := ⟨by (with_reducible repeat (first | refine blk_drewN ?_ _ | refine blk_drew ?_ | refine blk_alloc ?_ _)); refine blk_put (cs := #[.string ((rd_T71 l0_2 x3_2).f0), .int .i64 ((rd_T71 l0_2 x3_2).f1), .int .i64 ((rd_T71 l0_2 x3_2).f2), .string (⟨#[]⟩ : ByteArray)]) ?_ 3 _ rfl; (with_reducible repeat (first | refine blk_drewN ?_ _ | refine blk_drew ?_ | refine blk_alloc ?_ _)); refine blk_put (cs := #[.string ((rd_T71 l0_2 x3_2).f0), .int .i64 ((rd_T71 l0_2 x3_2).f1), .int .i64 0, .string (⟨#[]⟩ : ByteArray)]) ?_ 2 _ rfl; (with_reducible repeat (first | refine blk_drewN ?_ _ | refine blk_drew ?_ | refine blk_alloc ?_ _)); refine blk_put (cs := #[.string ((rd_T71 l0_2 x3_2).f0), .int .i64 0, .int .i64 0, .string (⟨#[]⟩ : ByteArray)]) ?_ 1 _ rfl; (with_reducible repeat (first | refine blk_drewN ?_ _ | refine blk_drew ?_ | refine blk_alloc ?_ _)); refine blk_put (cs := #[.string (⟨#[]⟩ : ByteArray), .int .i64 0, .int .i64 0, .string (⟨#[]⟩ : ByteArray)]) ?_ 0 _ rfl; (with_reducible repeat (first | refine blk_drewN ?_ _ | refine blk_drew ?_ | refine blk_alloc ?_ _)); exact BK166.out⟩
              have n2_ : Aside0 (Below w.heap.size w ((((w74.setCell ⟨gb166, 0, none⟩ (.string ((rd_T71 l0_2 x3_2).f0))).setCell ⟨gb166, 1, none⟩ (.int .i64 ((rd_T71 l0_2 x3_2).f1))).setCell ⟨gb166, 2, none⟩ (.int .i64 ((rd_T71 l0_2 x3_2).f2))).setCell ⟨gb166, 3, none⟩ (.string ((rd_T71 l0_2 x3_2).f3)))) := ⟨by repeat (first | (with_reducible first | exact HB.out | apply below_alloc | apply pw_below_drewN | apply below_drew1 | refine below_set ?_ GE162.out | refine below_set ?_ GE166.out) | exact HB.out)⟩
              (try clear BK162)
              (try clear BK166)
              (try clear HB)
              generalize ((((w74.setCell ⟨gb166, 0, none⟩ (.string ((rd_T71 l0_2 x3_2).f0))).setCell ⟨gb166, 1, none⟩ (.int .i64 ((rd_T71 l0_2 x3_2).f1))).setCell ⟨gb166, 2, none⟩ (.int .i64 ((rd_T71 l0_2 x3_2).f2))).setCell ⟨gb166, 3, none⟩ (.string ((rd_T71 l0_2 x3_2).f3))) = w77 at n0_ n1_ n2_ ⊢
              have BK162 := n0_
              have BK166 := n1_
              have HB := n2_
              clear n0_ n1_ n2_
              have n0_ := Aside0.mk (blk_drew BK162.out)
              have n1_ := Aside0.mk (blk_drew BK166.out)
              have n2_ := Aside0.mk (below_drew1 HB.out)
              clear BK162
              clear BK166
              clear HB
              have BK162 := n0_
              have BK166 := n1_
              have HB := n2_
              clear n0_ n1_ n2_
              refine start_ (n := 50) (S := fun w' => w'.cell? ⟨gb166, 0, none⟩ = some (.string ((rd_T71 l0_2 x3_2).f0)) ∧ w'.cell? ⟨gb166, 1, none⟩ = some (.int .i64 ((rd_T71 l0_2 x3_2).f1)) ∧ w'.cell? ⟨gb166, 2, none⟩ = some (.int .i64 ((rd_T71 l0_2 x3_2).f2)) ∧ w'.cell? ⟨gb166, 3, none⟩ = some (.string ((rd_T71 l0_2 x3_2).f3)) ∧ w'.cell? ⟨gb162, 0, none⟩ = some (.string a0_0) ∧ w'.cell? ⟨gb162, 1, none⟩ = some (.int .i64 a0_1) ∧ w'.cell? ⟨gb162, 2, none⟩ = some (.slice (some ad165) l0_2.length c0_2)) (ds := []) zm0 (by kernel_rfl) rfl rfl ⟨(blk_cell BK166.out 0).trans rfl, (blk_cell BK166.out 1).trans rfl, (blk_cell BK166.out 2).trans rfl, (blk_cell BK166.out 3).trans rfl, (blk_cell BK162.out 0).trans rfl, (blk_cell BK162.out 1).trans rfl, (blk_cell BK162.out 2).trans rfl⟩ (fun hHeld => ?_); refine with_tabW spec_DialbackRight.tab7 spec_DialbackRight.bits7 (fun HT_ HW_ => ?_)
              generalize w77.drew = w78 at BK162 BK166 HB hHeld ⊢
              refine zp 0 (some 33) zm1 HT_ ?_
              refine take_ (i := 1) (N := some 34) (v := ?_) (a' := ?_) zm2 rfl rfl (take_ofW HT_.out HW_.out (by kernel_rfl)) (fun _ _ _ h => h) (Or.inl ⟨by rfl, ?_⟩) hHeld ?_ ?_
              rotate_left
              ·
               rintro w' ⟨s0, s1, s2, s3, s4, s5, s6⟩
               go_simp
               with_reducible rfl
              rotate_left
              ·
               simp only [Act.put, List.setIfInBounds_toArray, List.set_cons_zero, List.set_cons_succ, i64_w, i32_w]
               rfl
              refine one_ (i := 2) (N := some 35) zm3 rfl rfl (one_of HT_.out (by kernel_rfl)) (by decide) (fun K hK => ?_)
              refine goes_ Tryd.func46 (by kernel_rfl) rfl #[.string ((rd_T71 l0_2 x3_2).f0)] (by rfl) rfl rfl zb1_5 ?_
              with_reducible refine (spec_l05Domain.calls k2 ((rd_T71 l0_2 x3_2).f0) true _ A14.out).mono ?_
              rintro e w' ⟨rfl, ⟨nd, rfl⟩⟩
              refine ⟨_, rfl, ?_⟩
              refine hK.out _ _ ⟨(blk_cell BK166.out 0).trans rfl, (blk_cell BK166.out 1).trans rfl, (blk_cell BK166.out 2).trans rfl, (blk_cell BK166.out 3).trans rfl, (blk_cell BK162.out 0).trans rfl, (blk_cell BK162.out 1).trans rfl, (blk_cell BK162.out 2).trans rfl⟩ (fun hHeld => ?_)
              clear hK K
              refine norm_ (a' := ?_) ?_ ?_
              rotate_left
              ·
               show Act.put _ (some 35) _ = _
               simp only [Act.put, List.setIfInBounds_toArray, List.set_cons_zero, List.set_cons_succ, i64_w, i32_w]
               rfl
              refine zp 3 (some 36) zm4 HT_ ?_
              refine zp 4 (some 37) zm5 HT_ ?_
              refine zp 5 (some 38) zm6 HT_ ?_
              refine zp 7 (some 40) zm7 HT_ ?_
              refine take_ (i := 6) (N := some 39) (v := ?_) (a' := ?_) zm8 rfl rfl (take_ofW HT_.out HW_.out (by kernel_rfl)) (fun _ _ _ h => h) (Or.inl ⟨by rfl, ?_⟩) hHeld ?_ ?_
              rotate_left
              ·
               rintro w' ⟨s0, s1, s2, s3, s4, s5, s6⟩
               go_simp
               with_reducible rfl
              rotate_left
              ·
               simp only [Act.put, List.setIfInBounds_toArray, List.set_cons_zero, List.set_cons_succ, i64_w, i32_w]
               rfl
              refine take_ (i := 8) (N := some 41) (v := ?_) (a' := ?_) zm9 rfl rfl (take_ofW HT_.out HW_.out (by kernel_rfl)) (fun _ _ _ h => h) (Or.inl ⟨by rfl, ?_⟩) hHeld ?_ ?_
              rotate_left
              ·
               rintro w' ⟨s0, s1, s2, s3, s4, s5, s6⟩
               go_simp
               with_reducible rfl
              rotate_left
              ·
               simp only [Act.put, List.setIfInBounds_toArray, List.set_cons_zero, List.set_cons_succ, i64_w, i32_w]
               rfl
              refine zp 9 (some 42) zm10 HT_ ?_
              refine one_ (i := 10) (N := some 43) zm11 rfl rfl (one_of HT_.out (by kernel_rfl)) (by decide) (fun K hK => ?_)
              refine goes_ Tryd.func47 (by kernel_rfl) rfl #[.int .i64 ((rd_T71 l0_2 x3_2).f1), .int .i64 1, .int .i64 (wrap64 (a0_1 - 1))] (by rfl) rfl rfl zb1_5 ?_
              with_reducible refine (spec_l03Is.calls ((rd_T71 l0_2 x3_2).f1) 1 (wrap64 (a0_1 - 1)) true _ A16.out).mono ?_
              rintro e w' ⟨rfl, ⟨nd, rfl⟩⟩
              refine ⟨_, rfl, ?_⟩
              refine hK.out _ _ ⟨(blk_cell BK166.out 0).trans rfl, (blk_cell BK166.out 1).trans rfl, (blk_cell BK166.out 2).trans rfl, (blk_cell BK166.out 3).trans rfl, (blk_cell BK162.out 0).trans rfl, (blk_cell BK162.out 1).trans rfl, (blk_cell BK162.out 2).trans rfl⟩ (fun hHeld => ?_)
              clear hK K
              refine norm_ (a' := ?_) ?_ ?_
              rotate_left
              ·
               show Act.put _ (some 43) _ = _
               simp only [Act.put, List.setIfInBounds_toArray, List.set_cons_zero, List.set_cons_succ, i64_w, i32_w]
               rfl
              refine zp 11 (some 44) zm12 HT_ ?_
              refine zp 12 (some 45) zm13 HT_ ?_
              refine zp 13 (some 46) zm14 HT_ ?_
              refine zp 14 (some 47) zm15 HT_ ?_
              refine zp 15 (some 48) zm16 HT_ ?_
              refine zp 16 (some 49) zm17 HT_ ?_
              refine zu 17 (some 50) zm18 HT_ ?_
              refine zu 18 (some 51) zm53 HT_ ?_
              refine zu 19 (some 52) zm54 HT_ ?_
              refine zu 20 (some 53) zm55 HT_ ?_
              refine zu 21 (some 54) zm56 HT_ ?_
              refine zu 22 (some 55) zm57 HT_ ?_
              refine zu 23 (some 56) zm58 HT_ ?_
              refine zu 24 (some 57) zm25 HT_ ?_
              refine zu 25 (some 58) zm26 HT_ ?_
              refine zu 26 (some 59) zm27 HT_ ?_
              refine zp 27 (some 60) zm28 HT_ ?_
              refine zp 28 (some 61) zm29 HT_ ?_
              refine zp 29 (some 62) zm30 HT_ ?_
              refine zp 30 (some 63) zm31 HT_ ?_
              refine take_ (i := 31) (N := some 64) (v := ?_) (a' := ?_) zm32 rfl rfl (take_ofW HT_.out HW_.out (by kernel_rfl)) (fun _ _ _ h => h) (Or.inl ⟨by rfl, ?_⟩) hHeld ?_ ?_
              rotate_left
              ·
               rintro w' ⟨s0, s1, s2, s3, s4, s5, s6⟩
               go_simp
               with_reducible rfl
              rotate_left
              ·
               simp only [Act.put, List.setIfInBounds_toArray, List.set_cons_zero, List.set_cons_succ, i64_w, i32_w]
               rfl
              refine one_ (i := 32) (N := some 65) zm33 rfl rfl (one_of HT_.out (by kernel_rfl)) (by decide) (fun K hK => ?_)
              refine goes_ Tryd.func47 (by kernel_rfl) rfl #[.int .i64 ((rd_T71 l0_2 x3_2).f2), .int .i64 0, .int .i64 3] (by rfl) rfl rfl zb1_5 ?_
              with_reducible refine (spec_l03Is.calls ((rd_T71 l0_2 x3_2).f2) 0 3 true _ A57.out).mono ?_
              rintro e w' ⟨rfl, ⟨nd, rfl⟩⟩
              refine ⟨_, rfl, ?_⟩
              refine hK.out _ _ ⟨(blk_cell BK166.out 0).trans rfl, (blk_cell BK166.out 1).trans rfl, (blk_cell BK166.out 2).trans rfl, (blk_cell BK166.out 3).trans rfl, (blk_cell BK162.out 0).trans rfl, (blk_cell BK162.out 1).trans rfl, (blk_cell BK162.out 2).trans rfl⟩ (fun hHeld => ?_)
              clear hK K
              refine norm_ (a' := ?_) ?_ ?_
              rotate_left
              ·
               show Act.put _ (some 65) _ = _
               simp only [Act.put, List.setIfInBounds_toArray, List.set_cons_zero, List.set_cons_succ, i64_w, i32_w]
               rfl
              refine zp 33 (some 66) zm34 HT_ ?_
              refine zp 34 (some 67) zm35 HT_ ?_
              refine zp 35 (some 68) zm36 HT_ ?_
              refine zp 36 (some 69) zm37 HT_ ?_
              refine take_ (i := 37) (N := some 70) (v := ?_) (a' := ?_) zm38 rfl rfl (take_ofW HT_.out HW_.out (by kernel_rfl)) (fun _ _ _ h => h) (Or.inl ⟨by rfl, ?_⟩) hHeld ?_ ?_
              rotate_left
              ·
               rintro w' ⟨s0, s1, s2, s3, s4, s5, s6⟩
               go_simp
               with_reducible rfl
              rotate_left
              ·
               simp only [Act.put, List.setIfInBounds_toArray, List.set_cons_zero, List.set_cons_succ, i64_w, i32_w]
               rfl
              refine zp 38 (some 71) zm39 HT_ ?_
              refine zp 39 (some 72) zm40 HT_ ?_
              refine zp 40 (some 73) zm41 HT_ ?_
              refine zp 41 (some 74) zm42 HT_ ?_
              refine zp 42 (some 75) zm43 HT_ ?_
              refine zp 45 (some 78) zm51 HT_ ?_
              refine take_ (i := 43) (N := some 76) (v := ?_) (a' := ?_) zm52 rfl rfl (take_ofW HT_.out HW_.out (by kernel_rfl)) (fun _ _ _ h => h) (Or.inl ⟨by rfl, ?_⟩) hHeld ?_ ?_
              rotate_left
              ·
               rintro w' ⟨s0, s1, s2, s3, s4, s5, s6⟩
               go_simp
               with_reducible rfl
              rotate_left
              ·
               simp only [Act.put, List.setIfInBounds_toArray, List.set_cons_zero, List.set_cons_succ, i64_w, i32_w]
               rfl
              refine zp 44 (some 77) zm46 HT_ ?_
              refine take_ (i := 46) (N := some 79) (v := ?_) (a' := ?_) zm47 rfl rfl (take_ofW HT_.out HW_.out (by kernel_rfl)) (fun _ _ _ h => h) (Or.inl ⟨by rfl, ?_⟩) hHeld ?_ ?_
              rotate_left
              ·
               rintro w' ⟨s0, s1, s2, s3, s4, s5, s6⟩
               go_simp
               with_reducible rfl
              rotate_left
              ·
               simp only [Act.put, List.setIfInBounds_toArray, List.set_cons_zero, List.set_cons_succ, i64_w, i32_w]
               rfl
              refine zp 47 (some 80) zm48 HT_ ?_
              refine zp 48 (some 81) zm49 HT_ ?_
              refine zp 49 (some 82) zm50 HT_ ?_
              refine done_ (done_of HT_.out (by kernel_rfl)) ?_
              try go_wp2
              go_roundg k2
              case measure => have := HJ1.out; have := HK2.out; omega
              case rel => exact ⟨(wrap64 (x3_2 + 1)), zb2_5, H', ⟨by have := HJ1.out; have := HK2.out; omega⟩, ⟨by (with_reducible repeat (first | refine blk_drewN ?_ _ | refine blk_drew ?_ | refine blk_alloc ?_ _)); exact BK162.out⟩, ⟨by repeat (first | (with_reducible first | exact HB.out | apply below_alloc | apply pw_below_drewN | apply below_drew1 | refine below_set ?_ GE162.out | refine below_set ?_ GE166.out) | exact HB.out)⟩⟩
           ·
            replace c58 := Bool.eq_false_iff.mpr c58
            subst c58
            have H1 : (some false) = some r := by rw [if_neg (show ¬ (false = true) by decide)] at H; exact H
            clear H
            have H := H1
            clear H1
            obtain rfl := Option.some.inj H
            have hcz79_0 := bcq_5 BK162.out 0
            have hcz79_1 := bcq_5 BK162.out 1
            have hcz79_2 := bcq_5 BK162.out 2
            have hfz79_0 := blk_frozen BK162.out 0
            have hfz79_1 := blk_frozen BK162.out 1
            have hfz79_2 := blk_frozen BK162.out 2
            have p165 : 0 ≤ (x3_2 : Int) := of_decide_eq_true zb3_5
            have q165 : x3_2 < (l0_2.length : Int) := of_decide_eq_true zb3_5
            obtain ⟨ad165, e165, hx165_0, hx165_1, hx165_2, hx165_3⟩ := at_T71 HR0_2.out x3_2 p165 q165
            cases e165
            replace hx165_0 := (HB.out.cell (World.block_lt_of_cell? w _ hx165_0)).trans hx165_0
            replace hx165_1 := (HB.out.cell (World.block_lt_of_cell? w _ hx165_1)).trans hx165_1
            replace hx165_2 := (HB.out.cell (World.block_lt_of_cell? w _ hx165_2)).trans hx165_2
            replace hx165_3 := (HB.out.cell (World.block_lt_of_cell? w _ hx165_3)).trans hx165_3
            replace p165 := eq_true p165
            replace q165 := eq_true q165
            try go_wp2_with (first | ((with_reducible refine gate_dst (N := 4) rfl ?_); (try (refine gate_guard (by rfl) ?_; dsimp only)); refine box_event ?hg (N := 4) ?hd (cs := #[.string (⟨#[]⟩ : ByteArray), .int .i64 0, .int .i64 0, .string (⟨#[]⟩ : ByteArray)]) (t := 71) ?hr ?_; (case hd => rfl); (case hg => rfl); (case hr => first | (go_simp; done) | (go_simp; rfl)); intro gb166 hg w80 hbox hb; have n0_ := Aside0.mk (blk_below (g := gb162) (o := .cells #[.string a0_0, .int .i64 a0_1, .slice (some ad165) l0_2.length c0_2] 40 (0, 0)) zb4_5 hb); have n1_ := Aside0.mk (below_step zb5_5 hb); have n2_ := Aside0.mk (hbox); have n3_ := Aside0.mk ((zb6_5 : w.heap.size ≤ gb166)); have n4_ := Aside0.mk ((zb6_5 : w.heap.size ≤ gb166)); have n5_ := Aside0.mk ((zb7_5 : gb162 ≠ gb166)); have n6_ := Aside0.mk ((zb8_5 : gb166 ≠ gb162)); clear BK162; clear HB; have BK162 := n0_; have HB := n1_; have BK166 := n2_; have GW166 := n3_; have GE166 := n4_; have NB162_166 := n5_; have NB166_162 := n6_; clear n0_ n1_ n2_ n3_ n4_ n5_ n6_; clear hb hbox hg; have hnb81 := NB166_162.out; have hnc81 := NB162_166.out; have hcz82_0 := bcq_5 BK166.out 0; have hcz82_1 := bcq_5 BK166.out 1; have hcz82_2 := bcq_5 BK166.out 2; have hcz82_3 := bcq_5 BK166.out 3; have hfz82_0 := blk_frozen BK166.out 0; have hfz82_1 := blk_frozen BK166.out 1; have hfz82_2 := blk_frozen BK166.out 2; have hfz82_3 := blk_frozen BK166.out 3))
            have n0_ : Aside0 (((((w80.setCell ⟨gb166, 0, none⟩ (.string ((rd_T71 l0_2 x3_2).f0))).setCell ⟨gb166, 1, none⟩ (.int .i64 ((rd_T71 l0_2 x3_2).f1))).setCell ⟨gb166, 2, none⟩ (.int .i64 ((rd_T71 l0_2 x3_2).f2))).setCell ⟨gb166, 3, none⟩ (.string ((rd_T71 l0_2 x3_2).f3))).heap[gb162]? = some (.cells #[.string a0_0, .int .i64 a0_1, .slice (some ad165) l0_2.length c0_2] 40 (0, 0))) := ⟨by (with_reducible repeat (first | refine blk_drewN ?_ _ | refine blk_drew ?_ | refine blk_alloc ?_ _)); refine blk_far ?_ NB162_166.out _; (with_reducible repeat (first | refine blk_drewN ?_ _ | refine blk_drew ?_ | refine blk_alloc ?_ _)); refine blk_far ?_ NB162_166.out _; (with_reducible repeat (first | refine blk_drewN ?_ _ | refine blk_drew ?_ | refine blk_alloc ?_ _)); refine blk_far ?_ NB162_166.out _; (with_reducible repeat (first | refine blk_drewN ?_ _ | refine blk_drew ?_ | refine blk_alloc ?_ _)); refine blk_far ?_ NB162_166.out _; (with_reducible repeat (first | refine blk_drewN ?_ _ | refine blk_drew ?_ | refine blk_alloc ?_ _)); exact BK162.out⟩
            have n1_ : Aside0 (((((w80.setCell ⟨gb166, 0, none⟩ (.string ((rd_T71 l0_2 x3_2).f0))).setCell ⟨gb166, 1, none⟩ (.int .i64 ((rd_T71 l0_2 x3_2).f1))).setCell ⟨gb166, 2, none⟩ (.int .i64 ((rd_T71 l0_2 x3_2).f2))).setCell ⟨gb166, 3, none⟩ (.string ((rd_T71 l0_2 x3_2).f3))).heap[gb166]? = some (.cells #[.string ((rd_T71 l0_2 x3_2).f0), .int .i64 ((rd_T71 l0_2 x3_2).f1), .int .i64 ((rd_T71 l0_2 x3_2).f2), .string ((rd_T71 l0_2 x3_2).f3)] 71 (0, 0))) := ⟨by (with_reducible repeat (first | refine blk_drewN ?_ _ | refine blk_drew ?_ | refine blk_alloc ?_ _)); refine blk_put (cs := #[.string ((rd_T71 l0_2 x3_2).f0), .int .i64 ((rd_T71 l0_2 x3_2).f1), .int .i64 ((rd_T71 l0_2 x3_2).f2), .string (⟨#[]⟩ : ByteArray)]) ?_ 3 _ rfl; (with_reducible repeat (first | refine blk_drewN ?_ _ | refine blk_drew ?_ | refine blk_alloc ?_ _)); refine blk_put (cs := #[.string ((rd_T71 l0_2 x3_2).f0), .int .i64 ((rd_T71 l0_2 x3_2).f1), .int .i64 0, .string (⟨#[]⟩ : ByteArray)]) ?_ 2 _ rfl; (with_reducible repeat (first | refine blk_drewN ?_ _ | refine blk_drew ?_ | refine blk_alloc ?_ _)); refine blk_put (cs := #[.string ((rd_T71 l0_2 x3_2).f0), .int .i64 0, .int .i64 0, .string (⟨#[]⟩ : ByteArray)]) ?_ 1 _ rfl; (with_reducible repeat (first | refine blk_drewN ?_ _ | refine blk_drew ?_ | refine blk_alloc ?_ _)); refine blk_put (cs := #[.string (⟨#[]⟩ : ByteArray), .int .i64 0, .int .i64 0, .string (⟨#[]⟩ : ByteArray)]) ?_ 0 _ rfl; (with_reducible repeat (first | refine blk_drewN ?_ _ | refine blk_drew ?_ | refine blk_alloc ?_ _)); exact BK166.out⟩
            have n2_ : Aside0 (Below w.heap.size w ((((w80.setCell ⟨gb166, 0, none⟩ (.string ((rd_T71 l0_2 x3_2).f0))).setCell ⟨gb166, 1, none⟩ (.int .i64 ((rd_T71 l0_2 x3_2).f1))).setCell ⟨gb166, 2, none⟩ (.int .i64 ((rd_T71 l0_2 x3_2).f2))).setCell ⟨gb166, 3, none⟩ (.string ((rd_T71 l0_2 x3_2).f3)))) := ⟨by repeat (first | (with_reducible first | exact HB.out | apply below_alloc | apply pw_below_drewN | apply below_drew1 | refine below_set ?_ GE162.out | refine below_set ?_ GE166.out) | exact HB.out)⟩
            (try clear BK162)
            (try clear BK166)
            (try clear HB)
            generalize ((((w80.setCell ⟨gb166, 0, none⟩ (.string ((rd_T71 l0_2 x3_2).f0))).setCell ⟨gb166, 1, none⟩ (.int .i64 ((rd_T71 l0_2 x3_2).f1))).setCell ⟨gb166, 2, none⟩ (.int .i64 ((rd_T71 l0_2 x3_2).f2))).setCell ⟨gb166, 3, none⟩ (.string ((rd_T71 l0_2 x3_2).f3))) = w83 at n0_ n1_ n2_ ⊢
            have BK162 := n0_
            have BK166 := n1_
            have HB := n2_
            clear n0_ n1_ n2_
            have n0_ := Aside0.mk (blk_drew BK162.out)
            have n1_ := Aside0.mk (blk_drew BK166.out)
            have n2_ := Aside0.mk (below_drew1 HB.out)
            clear BK162
            clear BK166
            clear HB
            have BK162 := n0_
            have BK166 := n1_
            have HB := n2_
            clear n0_ n1_ n2_
            refine start_ (n := 50) (S := fun w' => w'.cell? ⟨gb166, 0, none⟩ = some (.string ((rd_T71 l0_2 x3_2).f0)) ∧ w'.cell? ⟨gb166, 1, none⟩ = some (.int .i64 ((rd_T71 l0_2 x3_2).f1)) ∧ w'.cell? ⟨gb166, 2, none⟩ = some (.int .i64 ((rd_T71 l0_2 x3_2).f2)) ∧ w'.cell? ⟨gb166, 3, none⟩ = some (.string ((rd_T71 l0_2 x3_2).f3)) ∧ w'.cell? ⟨gb162, 0, none⟩ = some (.string a0_0) ∧ w'.cell? ⟨gb162, 1, none⟩ = some (.int .i64 a0_1) ∧ w'.cell? ⟨gb162, 2, none⟩ = some (.slice (some ad165) l0_2.length c0_2)) (ds := []) zm0 (by kernel_rfl) rfl rfl ⟨(blk_cell BK166.out 0).trans rfl, (blk_cell BK166.out 1).trans rfl, (blk_cell BK166.out 2).trans rfl, (blk_cell BK166.out 3).trans rfl, (blk_cell BK162.out 0).trans rfl, (blk_cell BK162.out 1).trans rfl, (blk_cell BK162.out 2).trans rfl⟩ (fun hHeld => ?_); refine with_tabW spec_DialbackRight.tab7 spec_DialbackRight.bits7 (fun HT_ HW_ => ?_)
            generalize w83.drew = w84 at BK162 BK166 HB hHeld ⊢
            refine zp 0 (some 33) zm1 HT_ ?_
            refine take_ (i := 1) (N := some 34) (v := ?_) (a' := ?_) zm2 rfl rfl (take_ofW HT_.out HW_.out (by kernel_rfl)) (fun _ _ _ h => h) (Or.inl ⟨by rfl, ?_⟩) hHeld ?_ ?_
            rotate_left
            ·
             rintro w' ⟨s0, s1, s2, s3, s4, s5, s6⟩
             go_simp
             with_reducible rfl
            rotate_left
            ·
             simp only [Act.put, List.setIfInBounds_toArray, List.set_cons_zero, List.set_cons_succ, i64_w, i32_w]
             rfl
            refine one_ (i := 2) (N := some 35) zm3 rfl rfl (one_of HT_.out (by kernel_rfl)) (by decide) (fun K hK => ?_)
            refine goes_ Tryd.func46 (by kernel_rfl) rfl #[.string ((rd_T71 l0_2 x3_2).f0)] (by rfl) rfl rfl zb1_5 ?_
            with_reducible refine (spec_l05Domain.calls k2 ((rd_T71 l0_2 x3_2).f0) true _ A14.out).mono ?_
            rintro e w' ⟨rfl, ⟨nd, rfl⟩⟩
            refine ⟨_, rfl, ?_⟩
            refine hK.out _ _ ⟨(blk_cell BK166.out 0).trans rfl, (blk_cell BK166.out 1).trans rfl, (blk_cell BK166.out 2).trans rfl, (blk_cell BK166.out 3).trans rfl, (blk_cell BK162.out 0).trans rfl, (blk_cell BK162.out 1).trans rfl, (blk_cell BK162.out 2).trans rfl⟩ (fun hHeld => ?_)
            clear hK K
            refine norm_ (a' := ?_) ?_ ?_
            rotate_left
            ·
             show Act.put _ (some 35) _ = _
             simp only [Act.put, List.setIfInBounds_toArray, List.set_cons_zero, List.set_cons_succ, i64_w, i32_w]
             rfl
            refine zp 3 (some 36) zm4 HT_ ?_
            refine zp 4 (some 37) zm5 HT_ ?_
            refine zp 5 (some 38) zm6 HT_ ?_
            refine zp 7 (some 40) zm7 HT_ ?_
            refine take_ (i := 6) (N := some 39) (v := ?_) (a' := ?_) zm8 rfl rfl (take_ofW HT_.out HW_.out (by kernel_rfl)) (fun _ _ _ h => h) (Or.inl ⟨by rfl, ?_⟩) hHeld ?_ ?_
            rotate_left
            ·
             rintro w' ⟨s0, s1, s2, s3, s4, s5, s6⟩
             go_simp
             with_reducible rfl
            rotate_left
            ·
             simp only [Act.put, List.setIfInBounds_toArray, List.set_cons_zero, List.set_cons_succ, i64_w, i32_w]
             rfl
            refine take_ (i := 8) (N := some 41) (v := ?_) (a' := ?_) zm9 rfl rfl (take_ofW HT_.out HW_.out (by kernel_rfl)) (fun _ _ _ h => h) (Or.inl ⟨by rfl, ?_⟩) hHeld ?_ ?_
            rotate_left
            ·
             rintro w' ⟨s0, s1, s2, s3, s4, s5, s6⟩
             go_simp
             with_reducible rfl
            rotate_left
            ·
             simp only [Act.put, List.setIfInBounds_toArray, List.set_cons_zero, List.set_cons_succ, i64_w, i32_w]
             rfl
            refine zp 9 (some 42) zm10 HT_ ?_
            refine one_ (i := 10) (N := some 43) zm11 rfl rfl (one_of HT_.out (by kernel_rfl)) (by decide) (fun K hK => ?_)
            refine goes_ Tryd.func47 (by kernel_rfl) rfl #[.int .i64 ((rd_T71 l0_2 x3_2).f1), .int .i64 1, .int .i64 (wrap64 (a0_1 - 1))] (by rfl) rfl rfl zb1_5 ?_
            with_reducible refine (spec_l03Is.calls ((rd_T71 l0_2 x3_2).f1) 1 (wrap64 (a0_1 - 1)) true _ A16.out).mono ?_
            rintro e w' ⟨rfl, ⟨nd, rfl⟩⟩
            refine ⟨_, rfl, ?_⟩
            refine hK.out _ _ ⟨(blk_cell BK166.out 0).trans rfl, (blk_cell BK166.out 1).trans rfl, (blk_cell BK166.out 2).trans rfl, (blk_cell BK166.out 3).trans rfl, (blk_cell BK162.out 0).trans rfl, (blk_cell BK162.out 1).trans rfl, (blk_cell BK162.out 2).trans rfl⟩ (fun hHeld => ?_)
            clear hK K
            refine norm_ (a' := ?_) ?_ ?_
            rotate_left
            ·
             show Act.put _ (some 43) _ = _
             simp only [Act.put, List.setIfInBounds_toArray, List.set_cons_zero, List.set_cons_succ, i64_w, i32_w]
             rfl
            refine zp 11 (some 44) zm12 HT_ ?_
            refine zp 12 (some 45) zm13 HT_ ?_
            refine zp 13 (some 46) zm14 HT_ ?_
            refine zp 14 (some 47) zm15 HT_ ?_
            refine zp 15 (some 48) zm16 HT_ ?_
            refine zp 16 (some 49) zm17 HT_ ?_
            refine zu 17 (some 50) zm18 HT_ ?_
            refine zu 18 (some 51) zm53 HT_ ?_
            refine zu 19 (some 52) zm54 HT_ ?_
            refine zu 20 (some 53) zm55 HT_ ?_
            refine zu 21 (some 54) zm56 HT_ ?_
            refine zu 22 (some 55) zm57 HT_ ?_
            refine zu 23 (some 56) zm58 HT_ ?_
            refine zu 24 (some 57) zm25 HT_ ?_
            refine zu 25 (some 58) zm26 HT_ ?_
            refine zu 26 (some 59) zm27 HT_ ?_
            refine zp 27 (some 60) zm28 HT_ ?_
            refine zp 28 (some 61) zm29 HT_ ?_
            refine zp 29 (some 62) zm30 HT_ ?_
            refine zp 30 (some 63) zm31 HT_ ?_
            refine take_ (i := 31) (N := some 64) (v := ?_) (a' := ?_) zm32 rfl rfl (take_ofW HT_.out HW_.out (by kernel_rfl)) (fun _ _ _ h => h) (Or.inl ⟨by rfl, ?_⟩) hHeld ?_ ?_
            rotate_left
            ·
             rintro w' ⟨s0, s1, s2, s3, s4, s5, s6⟩
             go_simp
             with_reducible rfl
            rotate_left
            ·
             simp only [Act.put, List.setIfInBounds_toArray, List.set_cons_zero, List.set_cons_succ, i64_w, i32_w]
             rfl
            refine one_ (i := 32) (N := some 65) zm33 rfl rfl (one_of HT_.out (by kernel_rfl)) (by decide) (fun K hK => ?_)
            refine goes_ Tryd.func47 (by kernel_rfl) rfl #[.int .i64 ((rd_T71 l0_2 x3_2).f2), .int .i64 0, .int .i64 3] (by rfl) rfl rfl zb1_5 ?_
            with_reducible refine (spec_l03Is.calls ((rd_T71 l0_2 x3_2).f2) 0 3 false _ A57.out).mono ?_
            rintro e w' ⟨rfl, ⟨nd, rfl⟩⟩
            refine ⟨_, rfl, ?_⟩
            refine hK.out _ _ ⟨(blk_cell BK166.out 0).trans rfl, (blk_cell BK166.out 1).trans rfl, (blk_cell BK166.out 2).trans rfl, (blk_cell BK166.out 3).trans rfl, (blk_cell BK162.out 0).trans rfl, (blk_cell BK162.out 1).trans rfl, (blk_cell BK162.out 2).trans rfl⟩ (fun hHeld => ?_)
            clear hK K
            refine norm_ (a' := ?_) ?_ ?_
            rotate_left
            ·
             show Act.put _ (some 65) _ = _
             simp only [Act.put, List.setIfInBounds_toArray, List.set_cons_zero, List.set_cons_succ, i64_w, i32_w]
             rfl
            refine zp 33 (some 66) zm34 HT_ ?_
            refine zp 34 (some 67) zm35 HT_ ?_
            refine zp 35 (some 68) zm36 HT_ ?_
            refine zu 36 (some 69) zm37 HT_ ?_
            refine zu 37 (some 70) zm38 HT_ ?_
            refine zu 38 (some 71) zm39 HT_ ?_
            refine zu 39 (some 72) zm40 HT_ ?_
            refine zp 40 (some 73) zm41 HT_ ?_
            refine zp 41 (some 74) zm42 HT_ ?_
            refine zu 42 (some 75) zm43 HT_ ?_
            refine zu 43 (some 76) zm44 HT_ ?_
            refine zu 44 (some 77) zm45 HT_ ?_
            refine zu 45 (some 78) zm46 HT_ ?_
            refine zu 46 (some 79) zm47 HT_ ?_
            refine zu 47 (some 80) zm48 HT_ ?_
            refine zu 48 (some 81) zm49 HT_ ?_
            refine zp 49 (some 82) zm50 HT_ ?_
            refine done_ (done_of HT_.out (by kernel_rfl)) ?_
            try go_wp2
            go_ret
            exact ⟨by first | rfl | (simp [errW_none, errW_some] <;> rfl) | (simp [*, errW_none, errW_some] <;> rfl), by repeat (first | (with_reducible first | exact HB.out | apply below_alloc | apply pw_below_drewN | apply below_drew1 | refine below_set ?_ GE162.out | refine below_set ?_ GE166.out) | exact HB.out)⟩
         ·
          replace c17 := Bool.eq_false_iff.mpr c17
          subst c17
          have H1 : (some false) = some r := by rw [if_neg (show ¬ (false = true) by decide)] at H; exact H
          clear H
          have H := H1
          clear H1
          obtain rfl := Option.some.inj H
          have hcz85_0 := bcq_5 BK162.out 0
          have hcz85_1 := bcq_5 BK162.out 1
          have hcz85_2 := bcq_5 BK162.out 2
          have hfz85_0 := blk_frozen BK162.out 0
          have hfz85_1 := blk_frozen BK162.out 1
          have hfz85_2 := blk_frozen BK162.out 2
          have p165 : 0 ≤ (x3_2 : Int) := of_decide_eq_true zb3_5
          have q165 : x3_2 < (l0_2.length : Int) := of_decide_eq_true zb3_5
          obtain ⟨ad165, e165, hx165_0, hx165_1, hx165_2, hx165_3⟩ := at_T71 HR0_2.out x3_2 p165 q165
          cases e165
          replace hx165_0 := (HB.out.cell (World.block_lt_of_cell? w _ hx165_0)).trans hx165_0
          replace hx165_1 := (HB.out.cell (World.block_lt_of_cell? w _ hx165_1)).trans hx165_1
          replace hx165_2 := (HB.out.cell (World.block_lt_of_cell? w _ hx165_2)).trans hx165_2
          replace hx165_3 := (HB.out.cell (World.block_lt_of_cell? w _ hx165_3)).trans hx165_3
          replace p165 := eq_true p165
          replace q165 := eq_true q165
          try go_wp2_with (first | ((with_reducible refine gate_dst (N := 4) rfl ?_); (try (refine gate_guard (by rfl) ?_; dsimp only)); refine box_event ?hg (N := 4) ?hd (cs := #[.string (⟨#[]⟩ : ByteArray), .int .i64 0, .int .i64 0, .string (⟨#[]⟩ : ByteArray)]) (t := 71) ?hr ?_; (case hd => rfl); (case hg => rfl); (case hr => first | (go_simp; done) | (go_simp; rfl)); intro gb166 hg w86 hbox hb; have n0_ := Aside0.mk (blk_below (g := gb162) (o := .cells #[.string a0_0, .int .i64 a0_1, .slice (some ad165) l0_2.length c0_2] 40 (0, 0)) zb4_5 hb); have n1_ := Aside0.mk (below_step zb5_5 hb); have n2_ := Aside0.mk (hbox); have n3_ := Aside0.mk ((zb6_5 : w.heap.size ≤ gb166)); have n4_ := Aside0.mk ((zb6_5 : w.heap.size ≤ gb166)); have n5_ := Aside0.mk ((zb7_5 : gb162 ≠ gb166)); have n6_ := Aside0.mk ((zb8_5 : gb166 ≠ gb162)); clear BK162; clear HB; have BK162 := n0_; have HB := n1_; have BK166 := n2_; have GW166 := n3_; have GE166 := n4_; have NB162_166 := n5_; have NB166_162 := n6_; clear n0_ n1_ n2_ n3_ n4_ n5_ n6_; clear hb hbox hg; have hnb87 := NB166_162.out; have hnc87 := NB162_166.out; have hcz88_0 := bcq_5 BK166.out 0; have hcz88_1 := bcq_5 BK166.out 1; have hcz88_2 := bcq_5 BK166.out 2; have hcz88_3 := bcq_5 BK166.out 3; have hfz88_0 := blk_frozen BK166.out 0; have hfz88_1 := blk_frozen BK166.out 1; have hfz88_2 := blk_frozen BK166.out 2; have hfz88_3 := blk_frozen BK166.out 3))
          have n0_ : Aside0 (((((w86.setCell ⟨gb166, 0, none⟩ (.string ((rd_T71 l0_2 x3_2).f0))).setCell ⟨gb166, 1, none⟩ (.int .i64 ((rd_T71 l0_2 x3_2).f1))).setCell ⟨gb166, 2, none⟩ (.int .i64 ((rd_T71 l0_2 x3_2).f2))).setCell ⟨gb166, 3, none⟩ (.string ((rd_T71 l0_2 x3_2).f3))).heap[gb162]? = some (.cells #[.string a0_0, .int .i64 a0_1, .slice (some ad165) l0_2.length c0_2] 40 (0, 0))) := ⟨by (with_reducible repeat (first | refine blk_drewN ?_ _ | refine blk_drew ?_ | refine blk_alloc ?_ _)); refine blk_far ?_ NB162_166.out _; (with_reducible repeat (first | refine blk_drewN ?_ _ | refine blk_drew ?_ | refine blk_alloc ?_ _)); refine blk_far ?_ NB162_166.out _; (with_reducible repeat (first | refine blk_drewN ?_ _ | refine blk_drew ?_ | refine blk_alloc ?_ _)); refine blk_far ?_ NB162_166.out _; (with_reducible repeat (first | refine blk_drewN ?_ _ | refine blk_drew ?_ | refine blk_alloc ?_ _)); refine blk_far ?_ NB162_166.out _; (with_reducible repeat (first | refine blk_drewN ?_ _ | refine blk_drew ?_ | refine blk_alloc ?_ _)); exact BK162.out⟩
          have n1_ : Aside0 (((((w86.setCell ⟨gb166, 0, none⟩ (.string ((rd_T71 l0_2 x3_2).f0))).setCell ⟨gb166, 1, none⟩ (.int .i64 ((rd_T71 l0_2 x3_2).f1))).setCell ⟨gb166, 2, none⟩ (.int .i64 ((rd_T71 l0_2 x3_2).f2))).setCell ⟨gb166, 3, none⟩ (.string ((rd_T71 l0_2 x3_2).f3))).heap[gb166]? = some (.cells #[.string ((rd_T71 l0_2 x3_2).f0), .int .i64 ((rd_T71 l0_2 x3_2).f1), .int .i64 ((rd_T71 l0_2 x3_2).f2), .string ((rd_T71 l0_2 x3_2).f3)] 71 (0, 0))) := ⟨by (with_reducible repeat (first | refine blk_drewN ?_ _ | refine blk_drew ?_ | refine blk_alloc ?_ _)); refine blk_put (cs := #[.string ((rd_T71 l0_2 x3_2).f0), .int .i64 ((rd_T71 l0_2 x3_2).f1), .int .i64 ((rd_T71 l0_2 x3_2).f2), .string (⟨#[]⟩ : ByteArray)]) ?_ 3 _ rfl; (with_reducible repeat (first | refine blk_drewN ?_ _ | refine blk_drew ?_ | refine blk_alloc ?_ _)); refine blk_put (cs := #[.string ((rd_T71 l0_2 x3_2).f0), .int .i64 ((rd_T71 l0_2 x3_2).f1), .int .i64 0, .string (⟨#[]⟩ : ByteArray)]) ?_ 2 _ rfl; (with_reducible repeat (first | refine blk_drewN ?_ _ | refine blk_drew ?_ | refine blk_alloc ?_ _)); refine blk_put (cs := #[.string ((rd_T71 l0_2 x3_2).f0), .int .i64 0, .int .i64 0, .string (⟨#[]⟩ : ByteArray)]) ?_ 1 _ rfl; (with_reducible repeat (first | refine blk_drewN ?_ _ | refine blk_drew ?_ | refine blk_alloc ?_ _)); refine blk_put (cs := #[.string (⟨#[]⟩ : ByteArray), .int .i64 0, .int .i64 0, .string (⟨#[]⟩ : ByteArray)]) ?_ 0 _ rfl; (with_reducible repeat (first | refine blk_drewN ?_ _ | refine blk_drew ?_ | refine blk_alloc ?_ _)); exact BK166.out⟩
          have n2_ : Aside0 (Below w.heap.size w ((((w86.setCell ⟨gb166, 0, none⟩ (.string ((rd_T71 l0_2 x3_2).f0))).setCell ⟨gb166, 1, none⟩ (.int .i64 ((rd_T71 l0_2 x3_2).f1))).setCell ⟨gb166, 2, none⟩ (.int .i64 ((rd_T71 l0_2 x3_2).f2))).setCell ⟨gb166, 3, none⟩ (.string ((rd_T71 l0_2 x3_2).f3)))) := ⟨by repeat (first | (with_reducible first | exact HB.out | apply below_alloc | apply pw_below_drewN | apply below_drew1 | refine below_set ?_ GE162.out | refine below_set ?_ GE166.out) | exact HB.out)⟩
          (try clear BK162)
          (try clear BK166)
          (try clear HB)
          generalize ((((w86.setCell ⟨gb166, 0, none⟩ (.string ((rd_T71 l0_2 x3_2).f0))).setCell ⟨gb166, 1, none⟩ (.int .i64 ((rd_T71 l0_2 x3_2).f1))).setCell ⟨gb166, 2, none⟩ (.int .i64 ((rd_T71 l0_2 x3_2).f2))).setCell ⟨gb166, 3, none⟩ (.string ((rd_T71 l0_2 x3_2).f3))) = w89 at n0_ n1_ n2_ ⊢
          have BK162 := n0_
          have BK166 := n1_
          have HB := n2_
          clear n0_ n1_ n2_
          have n0_ := Aside0.mk (blk_drew BK162.out)
          have n1_ := Aside0.mk (blk_drew BK166.out)
          have n2_ := Aside0.mk (below_drew1 HB.out)
          clear BK162
          clear BK166
          clear HB
          have BK162 := n0_
          have BK166 := n1_
          have HB := n2_
          clear n0_ n1_ n2_
          refine start_ (n := 50) (S := fun w' => w'.cell? ⟨gb166, 0, none⟩ = some (.string ((rd_T71 l0_2 x3_2).f0)) ∧ w'.cell? ⟨gb166, 1, none⟩ = some (.int .i64 ((rd_T71 l0_2 x3_2).f1)) ∧ w'.cell? ⟨gb166, 2, none⟩ = some (.int .i64 ((rd_T71 l0_2 x3_2).f2)) ∧ w'.cell? ⟨gb166, 3, none⟩ = some (.string ((rd_T71 l0_2 x3_2).f3)) ∧ w'.cell? ⟨gb162, 0, none⟩ = some (.string a0_0) ∧ w'.cell? ⟨gb162, 1, none⟩ = some (.int .i64 a0_1) ∧ w'.cell? ⟨gb162, 2, none⟩ = some (.slice (some ad165) l0_2.length c0_2)) (ds := []) zm0 (by kernel_rfl) rfl rfl ⟨(blk_cell BK166.out 0).trans rfl, (blk_cell BK166.out 1).trans rfl, (blk_cell BK166.out 2).trans rfl, (blk_cell BK166.out 3).trans rfl, (blk_cell BK162.out 0).trans rfl, (blk_cell BK162.out 1).trans rfl, (blk_cell BK162.out 2).trans rfl⟩ (fun hHeld => ?_); refine with_tabW spec_DialbackRight.tab7 spec_DialbackRight.bits7 (fun HT_ HW_ => ?_)
          generalize w89.drew = w90 at BK162 BK166 HB hHeld ⊢
          refine zp 0 (some 33) zm1 HT_ ?_
          refine take_ (i := 1) (N := some 34) (v := ?_) (a' := ?_) zm2 rfl rfl (take_ofW HT_.out HW_.out (by kernel_rfl)) (fun _ _ _ h => h) (Or.inl ⟨by rfl, ?_⟩) hHeld ?_ ?_
          rotate_left
          ·
           rintro w' ⟨s0, s1, s2, s3, s4, s5, s6⟩
           go_simp
           with_reducible rfl
          rotate_left
          ·
           simp only [Act.put, List.setIfInBounds_toArray, List.set_cons_zero, List.set_cons_succ, i64_w, i32_w]
           rfl
          refine one_ (i := 2) (N := some 35) zm3 rfl rfl (one_of HT_.out (by kernel_rfl)) (by decide) (fun K hK => ?_)
          refine goes_ Tryd.func46 (by kernel_rfl) rfl #[.string ((rd_T71 l0_2 x3_2).f0)] (by rfl) rfl rfl zb1_5 ?_
          with_reducible refine (spec_l05Domain.calls k2 ((rd_T71 l0_2 x3_2).f0) true _ A14.out).mono ?_
          rintro e w' ⟨rfl, ⟨nd, rfl⟩⟩
          refine ⟨_, rfl, ?_⟩
          refine hK.out _ _ ⟨(blk_cell BK166.out 0).trans rfl, (blk_cell BK166.out 1).trans rfl, (blk_cell BK166.out 2).trans rfl, (blk_cell BK166.out 3).trans rfl, (blk_cell BK162.out 0).trans rfl, (blk_cell BK162.out 1).trans rfl, (blk_cell BK162.out 2).trans rfl⟩ (fun hHeld => ?_)
          clear hK K
          refine norm_ (a' := ?_) ?_ ?_
          rotate_left
          ·
           show Act.put _ (some 35) _ = _
           simp only [Act.put, List.setIfInBounds_toArray, List.set_cons_zero, List.set_cons_succ, i64_w, i32_w]
           rfl
          refine zp 3 (some 36) zm4 HT_ ?_
          refine zp 4 (some 37) zm5 HT_ ?_
          refine zp 5 (some 38) zm6 HT_ ?_
          refine zp 7 (some 40) zm7 HT_ ?_
          refine take_ (i := 6) (N := some 39) (v := ?_) (a' := ?_) zm8 rfl rfl (take_ofW HT_.out HW_.out (by kernel_rfl)) (fun _ _ _ h => h) (Or.inl ⟨by rfl, ?_⟩) hHeld ?_ ?_
          rotate_left
          ·
           rintro w' ⟨s0, s1, s2, s3, s4, s5, s6⟩
           go_simp
           with_reducible rfl
          rotate_left
          ·
           simp only [Act.put, List.setIfInBounds_toArray, List.set_cons_zero, List.set_cons_succ, i64_w, i32_w]
           rfl
          refine take_ (i := 8) (N := some 41) (v := ?_) (a' := ?_) zm9 rfl rfl (take_ofW HT_.out HW_.out (by kernel_rfl)) (fun _ _ _ h => h) (Or.inl ⟨by rfl, ?_⟩) hHeld ?_ ?_
          rotate_left
          ·
           rintro w' ⟨s0, s1, s2, s3, s4, s5, s6⟩
           go_simp
           with_reducible rfl
          rotate_left
          ·
           simp only [Act.put, List.setIfInBounds_toArray, List.set_cons_zero, List.set_cons_succ, i64_w, i32_w]
           rfl
          refine zp 9 (some 42) zm10 HT_ ?_
          refine one_ (i := 10) (N := some 43) zm11 rfl rfl (one_of HT_.out (by kernel_rfl)) (by decide) (fun K hK => ?_)
          refine goes_ Tryd.func47 (by kernel_rfl) rfl #[.int .i64 ((rd_T71 l0_2 x3_2).f1), .int .i64 1, .int .i64 (wrap64 (a0_1 - 1))] (by rfl) rfl rfl zb1_5 ?_
          with_reducible refine (spec_l03Is.calls ((rd_T71 l0_2 x3_2).f1) 1 (wrap64 (a0_1 - 1)) false _ A16.out).mono ?_
          rintro e w' ⟨rfl, ⟨nd, rfl⟩⟩
          refine ⟨_, rfl, ?_⟩
          refine hK.out _ _ ⟨(blk_cell BK166.out 0).trans rfl, (blk_cell BK166.out 1).trans rfl, (blk_cell BK166.out 2).trans rfl, (blk_cell BK166.out 3).trans rfl, (blk_cell BK162.out 0).trans rfl, (blk_cell BK162.out 1).trans rfl, (blk_cell BK162.out 2).trans rfl⟩ (fun hHeld => ?_)
          clear hK K
          refine norm_ (a' := ?_) ?_ ?_
          rotate_left
          ·
           show Act.put _ (some 43) _ = _
           simp only [Act.put, List.setIfInBounds_toArray, List.set_cons_zero, List.set_cons_succ, i64_w, i32_w]
           rfl
          refine zp 11 (some 44) zm12 HT_ ?_
          refine zp 12 (some 45) zm13 HT_ ?_
          refine zp 13 (some 46) zm14 HT_ ?_
          refine zu 14 (some 47) zm15 HT_ ?_
          refine zu 15 (some 48) zm16 HT_ ?_
          refine zu 16 (some 49) zm17 HT_ ?_
          refine zu 17 (some 50) zm18 HT_ ?_
          refine zu 18 (some 51) zm53 HT_ ?_
          refine zu 19 (some 52) zm54 HT_ ?_
          refine zu 20 (some 53) zm55 HT_ ?_
          refine zu 21 (some 54) zm56 HT_ ?_
          refine zu 22 (some 55) zm57 HT_ ?_
          refine zu 23 (some 56) zm58 HT_ ?_
          refine zu 24 (some 57) zm25 HT_ ?_
          refine zu 25 (some 58) zm26 HT_ ?_
          refine zu 26 (some 59) zm27 HT_ ?_
          refine zu 27 (some 60) zm28 HT_ ?_
          refine zp 28 (some 61) zm29 HT_ ?_
          refine zp 29 (some 62) zm30 HT_ ?_
          refine zu 30 (some 63) zm31 HT_ ?_
          refine zu 31 (some 64) zm32 HT_ ?_
          refine zu 32 (some 65) zm33 HT_ ?_
          refine zu 33 (some 66) zm34 HT_ ?_
          refine zp 34 (some 67) zm35 HT_ ?_
          refine zp 35 (some 68) zm36 HT_ ?_
          refine zu 36 (some 69) zm37 HT_ ?_
          refine zu 37 (some 70) zm38 HT_ ?_
          refine zu 38 (some 71) zm39 HT_ ?_
          refine zu 39 (some 72) zm40 HT_ ?_
          refine zp 40 (some 73) zm41 HT_ ?_
          refine zp 41 (some 74) zm42 HT_ ?_
          refine zu 42 (some 75) zm43 HT_ ?_
          refine zu 43 (some 76) zm44 HT_ ?_
          refine zu 44 (some 77) zm45 HT_ ?_
          refine zu 45 (some 78) zm46 HT_ ?_
          refine zu 46 (some 79) zm47 HT_ ?_
          refine zu 47 (some 80) zm48 HT_ ?_
          refine zu 48 (some 81) zm49 HT_ ?_
          refine zp 49 (some 82) zm50 HT_ ?_
          refine done_ (done_of HT_.out (by kernel_rfl)) ?_
          try go_wp2
          go_ret
          exact ⟨by first | rfl | (simp [errW_none, errW_some] <;> rfl) | (simp [*, errW_none, errW_some] <;> rfl), by repeat (first | (with_reducible first | exact HB.out | apply below_alloc | apply pw_below_drewN | apply below_drew1 | refine below_set ?_ GE162.out | refine below_set ?_ GE166.out) | exact HB.out)⟩
        ·
         replace c15 := Bool.eq_false_iff.mpr c15
         subst c15
         have H1 : (some false) = some r := by rw [if_neg (show ¬ (false = true) by decide)] at H; exact H
         clear H
         have H := H1
         clear H1
         obtain rfl := Option.some.inj H
         have hcz91_0 := bcq_5 BK162.out 0
         have hcz91_1 := bcq_5 BK162.out 1
         have hcz91_2 := bcq_5 BK162.out 2
         have hfz91_0 := blk_frozen BK162.out 0
         have hfz91_1 := blk_frozen BK162.out 1
         have hfz91_2 := blk_frozen BK162.out 2
         have p165 : 0 ≤ (x3_2 : Int) := of_decide_eq_true zb3_5
         have q165 : x3_2 < (l0_2.length : Int) := of_decide_eq_true zb3_5
         obtain ⟨ad165, e165, hx165_0, hx165_1, hx165_2, hx165_3⟩ := at_T71 HR0_2.out x3_2 p165 q165
         cases e165
         replace hx165_0 := (HB.out.cell (World.block_lt_of_cell? w _ hx165_0)).trans hx165_0
         replace hx165_1 := (HB.out.cell (World.block_lt_of_cell? w _ hx165_1)).trans hx165_1
         replace hx165_2 := (HB.out.cell (World.block_lt_of_cell? w _ hx165_2)).trans hx165_2
         replace hx165_3 := (HB.out.cell (World.block_lt_of_cell? w _ hx165_3)).trans hx165_3
         replace p165 := eq_true p165
         replace q165 := eq_true q165
         try go_wp2_with (first | ((with_reducible refine gate_dst (N := 4) rfl ?_); (try (refine gate_guard (by rfl) ?_; dsimp only)); refine box_event ?hg (N := 4) ?hd (cs := #[.string (⟨#[]⟩ : ByteArray), .int .i64 0, .int .i64 0, .string (⟨#[]⟩ : ByteArray)]) (t := 71) ?hr ?_; (case hd => rfl); (case hg => rfl); (case hr => first | (go_simp; done) | (go_simp; rfl)); intro gb166 hg w92 hbox hb; have n0_ := Aside0.mk (blk_below (g := gb162) (o := .cells #[.string a0_0, .int .i64 a0_1, .slice (some ad165) l0_2.length c0_2] 40 (0, 0)) zb4_5 hb); have n1_ := Aside0.mk (below_step zb5_5 hb); have n2_ := Aside0.mk (hbox); have n3_ := Aside0.mk ((zb6_5 : w.heap.size ≤ gb166)); have n4_ := Aside0.mk ((zb6_5 : w.heap.size ≤ gb166)); have n5_ := Aside0.mk ((zb7_5 : gb162 ≠ gb166)); have n6_ := Aside0.mk ((zb8_5 : gb166 ≠ gb162)); clear BK162; clear HB; have BK162 := n0_; have HB := n1_; have BK166 := n2_; have GW166 := n3_; have GE166 := n4_; have NB162_166 := n5_; have NB166_162 := n6_; clear n0_ n1_ n2_ n3_ n4_ n5_ n6_; clear hb hbox hg; have hnb93 := NB166_162.out; have hnc93 := NB162_166.out; have hcz94_0 := bcq_5 BK166.out 0; have hcz94_1 := bcq_5 BK166.out 1; have hcz94_2 := bcq_5 BK166.out 2; have hcz94_3 := bcq_5 BK166.out 3; have hfz94_0 := blk_frozen BK166.out 0; have hfz94_1 := blk_frozen BK166.out 1; have hfz94_2 := blk_frozen BK166.out 2; have hfz94_3 := blk_frozen BK166.out 3))
         have n0_ : Aside0 (((((w92.setCell ⟨gb166, 0, none⟩ (.string ((rd_T71 l0_2 x3_2).f0))).setCell ⟨gb166, 1, none⟩ (.int .i64 ((rd_T71 l0_2 x3_2).f1))).setCell ⟨gb166, 2, none⟩ (.int .i64 ((rd_T71 l0_2 x3_2).f2))).setCell ⟨gb166, 3, none⟩ (.string ((rd_T71 l0_2 x3_2).f3))).heap[gb162]? = some (.cells #[.string a0_0, .int .i64 a0_1, .slice (some ad165) l0_2.length c0_2] 40 (0, 0))) := ⟨by (with_reducible repeat (first | refine blk_drewN ?_ _ | refine blk_drew ?_ | refine blk_alloc ?_ _)); refine blk_far ?_ NB162_166.out _; (with_reducible repeat (first | refine blk_drewN ?_ _ | refine blk_drew ?_ | refine blk_alloc ?_ _)); refine blk_far ?_ NB162_166.out _; (with_reducible repeat (first | refine blk_drewN ?_ _ | refine blk_drew ?_ | refine blk_alloc ?_ _)); refine blk_far ?_ NB162_166.out _; (with_reducible repeat (first | refine blk_drewN ?_ _ | refine blk_drew ?_ | refine blk_alloc ?_ _)); refine blk_far ?_ NB162_166.out _; (with_reducible repeat (first | refine blk_drewN ?_ _ | refine blk_drew ?_ | refine blk_alloc ?_ _)); exact BK162.out⟩
         have n1_ : Aside0 (((((w92.setCell ⟨gb166, 0, none⟩ (.string ((rd_T71 l0_2 x3_2).f0))).setCell ⟨gb166, 1, none⟩ (.int .i64 ((rd_T71 l0_2 x3_2).f1))).setCell ⟨gb166, 2, none⟩ (.int .i64 ((rd_T71 l0_2 x3_2).f2))).setCell ⟨gb166, 3, none⟩ (.string ((rd_T71 l0_2 x3_2).f3))).heap[gb166]? = some (.cells #[.string ((rd_T71 l0_2 x3_2).f0), .int .i64 ((rd_T71 l0_2 x3_2).f1), .int .i64 ((rd_T71 l0_2 x3_2).f2), .string ((rd_T71 l0_2 x3_2).f3)] 71 (0, 0))) := ⟨by (with_reducible repeat (first | refine blk_drewN ?_ _ | refine blk_drew ?_ | refine blk_alloc ?_ _)); refine blk_put (cs := #[.string ((rd_T71 l0_2 x3_2).f0), .int .i64 ((rd_T71 l0_2 x3_2).f1), .int .i64 ((rd_T71 l0_2 x3_2).f2), .string (⟨#[]⟩ : ByteArray)]) ?_ 3 _ rfl; (with_reducible repeat (first | refine blk_drewN ?_ _ | refine blk_drew ?_ | refine blk_alloc ?_ _)); refine blk_put (cs := #[.string ((rd_T71 l0_2 x3_2).f0), .int .i64 ((rd_T71 l0_2 x3_2).f1), .int .i64 0, .string (⟨#[]⟩ : ByteArray)]) ?_ 2 _ rfl; (with_reducible repeat (first | refine blk_drewN ?_ _ | refine blk_drew ?_ | refine blk_alloc ?_ _)); refine blk_put (cs := #[.string ((rd_T71 l0_2 x3_2).f0), .int .i64 0, .int .i64 0, .string (⟨#[]⟩ : ByteArray)]) ?_ 1 _ rfl; (with_reducible repeat (first | refine blk_drewN ?_ _ | refine blk_drew ?_ | refine blk_alloc ?_ _)); refine blk_put (cs := #[.string (⟨#[]⟩ : ByteArray), .int .i64 0, .int .i64 0, .string (⟨#[]⟩ : ByteArray)]) ?_ 0 _ rfl; (with_reducible repeat (first | refine blk_drewN ?_ _ | refine blk_drew ?_ | refine blk_alloc ?_ _)); exact BK166.out⟩
         have n2_ : Aside0 (Below w.heap.size w ((((w92.setCell ⟨gb166, 0, none⟩ (.string ((rd_T71 l0_2 x3_2).f0))).setCell ⟨gb166, 1, none⟩ (.int .i64 ((rd_T71 l0_2 x3_2).f1))).setCell ⟨gb166, 2, none⟩ (.int .i64 ((rd_T71 l0_2 x3_2).f2))).setCell ⟨gb166, 3, none⟩ (.string ((rd_T71 l0_2 x3_2).f3)))) := ⟨by repeat (first | (with_reducible first | exact HB.out | apply below_alloc | apply pw_below_drewN | apply below_drew1 | refine below_set ?_ GE162.out | refine below_set ?_ GE166.out) | exact HB.out)⟩
         (try clear BK162)
         (try clear BK166)
         (try clear HB)
         generalize ((((w92.setCell ⟨gb166, 0, none⟩ (.string ((rd_T71 l0_2 x3_2).f0))).setCell ⟨gb166, 1, none⟩ (.int .i64 ((rd_T71 l0_2 x3_2).f1))).setCell ⟨gb166, 2, none⟩ (.int .i64 ((rd_T71 l0_2 x3_2).f2))).setCell ⟨gb166, 3, none⟩ (.string ((rd_T71 l0_2 x3_2).f3))) = w95 at n0_ n1_ n2_ ⊢
         have BK162 := n0_
         have BK166 := n1_
         have HB := n2_
         clear n0_ n1_ n2_
         have n0_ := Aside0.mk (blk_drew BK162.out)
         have n1_ := Aside0.mk (blk_drew BK166.out)
         have n2_ := Aside0.mk (below_drew1 HB.out)
         clear BK162
         clear BK166
         clear HB
         have BK162 := n0_
         have BK166 := n1_
         have HB := n2_
         clear n0_ n1_ n2_
         refine start_ (n := 50) (S := fun w' => w'.cell? ⟨gb166, 0, none⟩ = some (.string ((rd_T71 l0_2 x3_2).f0)) ∧ w'.cell? ⟨gb166, 1, none⟩ = some (.int .i64 ((rd_T71 l0_2 x3_2).f1)) ∧ w'.cell? ⟨gb166, 2, none⟩ = some (.int .i64 ((rd_T71 l0_2 x3_2).f2)) ∧ w'.cell? ⟨gb166, 3, none⟩ = some (.string ((rd_T71 l0_2 x3_2).f3))) (ds := []) zm0 (by kernel_rfl) rfl rfl ⟨(blk_cell BK166.out 0).trans rfl, (blk_cell BK166.out 1).trans rfl, (blk_cell BK166.out 2).trans rfl, (blk_cell BK166.out 3).trans rfl⟩ (fun hHeld => ?_); refine with_tabW spec_DialbackRight.tab7 spec_DialbackRight.bits7 (fun HT_ HW_ => ?_)
         generalize w95.drew = w96 at BK162 BK166 HB hHeld ⊢
         refine zp 0 (some 33) zm1 HT_ ?_
         refine take_ (i := 1) (N := some 34) (v := ?_) (a' := ?_) zm2 rfl rfl (take_ofW HT_.out HW_.out (by kernel_rfl)) (fun _ _ _ h => h) (Or.inl ⟨by rfl, ?_⟩) hHeld ?_ ?_
         rotate_left
         ·
          rintro w' ⟨s0, s1, s2, s3⟩
          go_simp
          with_reducible rfl
         rotate_left
         ·
          simp only [Act.put, List.setIfInBounds_toArray, List.set_cons_zero, List.set_cons_succ, i64_w, i32_w]
          rfl
         refine one_ (i := 2) (N := some 35) zm3 rfl rfl (one_of HT_.out (by kernel_rfl)) (by decide) (fun K hK => ?_)
         refine goes_ Tryd.func46 (by kernel_rfl) rfl #[.string ((rd_T71 l0_2 x3_2).f0)] (by rfl) rfl rfl zb1_5 ?_
         with_reducible refine (spec_l05Domain.calls k2 ((rd_T71 l0_2 x3_2).f0) false _ A14.out).mono ?_
         rintro e w' ⟨rfl, ⟨nd, rfl⟩⟩
         refine ⟨_, rfl, ?_⟩
         refine hK.out _ _ ⟨(blk_cell BK166.out 0).trans rfl, (blk_cell BK166.out 1).trans rfl, (blk_cell BK166.out 2).trans rfl, (blk_cell BK166.out 3).trans rfl⟩ (fun hHeld => ?_)
         clear hK K
         refine norm_ (a' := ?_) ?_ ?_
         rotate_left
         ·
          show Act.put _ (some 35) _ = _
          simp only [Act.put, List.setIfInBounds_toArray, List.set_cons_zero, List.set_cons_succ, i64_w, i32_w]
          rfl
         refine zp 3 (some 36) zm4 HT_ ?_
         refine zp 4 (some 37) zm5 HT_ ?_
         refine zu 5 (some 38) zm6 HT_ ?_
         refine zu 6 (some 39) zm59 HT_ ?_
         refine zu 7 (some 40) zm8 HT_ ?_
         refine zu 8 (some 41) zm9 HT_ ?_
         refine zu 9 (some 42) zm10 HT_ ?_
         refine zu 10 (some 43) zm11 HT_ ?_
         refine zu 11 (some 44) zm12 HT_ ?_
         refine zp 12 (some 45) zm13 HT_ ?_
         refine zp 13 (some 46) zm14 HT_ ?_
         refine zu 14 (some 47) zm15 HT_ ?_
         refine zu 15 (some 48) zm16 HT_ ?_
         refine zu 16 (some 49) zm17 HT_ ?_
         refine zu 17 (some 50) zm18 HT_ ?_
         refine zu 18 (some 51) zm53 HT_ ?_
         refine zu 19 (some 52) zm54 HT_ ?_
         refine zu 20 (some 53) zm55 HT_ ?_
         refine zu 21 (some 54) zm56 HT_ ?_
         refine zu 22 (some 55) zm57 HT_ ?_
         refine zu 23 (some 56) zm58 HT_ ?_
         refine zu 24 (some 57) zm25 HT_ ?_
         refine zu 25 (some 58) zm26 HT_ ?_
         refine zu 26 (some 59) zm27 HT_ ?_
         refine zu 27 (some 60) zm28 HT_ ?_
         refine zp 28 (some 61) zm29 HT_ ?_
         refine zp 29 (some 62) zm30 HT_ ?_
         refine zu 30 (some 63) zm31 HT_ ?_
         refine zu 31 (some 64) zm32 HT_ ?_
         refine zu 32 (some 65) zm33 HT_ ?_
         refine zu 33 (some 66) zm34 HT_ ?_
         refine zp 34 (some 67) zm35 HT_ ?_
         refine zp 35 (some 68) zm36 HT_ ?_
         refine zu 36 (some 69) zm37 HT_ ?_
         refine zu 37 (some 70) zm38 HT_ ?_
         refine zu 38 (some 71) zm39 HT_ ?_
         refine zu 39 (some 72) zm40 HT_ ?_
         refine zp 40 (some 73) zm41 HT_ ?_
         refine zp 41 (some 74) zm42 HT_ ?_
         refine zu 42 (some 75) zm43 HT_ ?_
         refine zu 43 (some 76) zm44 HT_ ?_
         refine zu 44 (some 77) zm45 HT_ ?_
         refine zu 45 (some 78) zm46 HT_ ?_
         refine zu 46 (some 79) zm47 HT_ ?_
         refine zu 47 (some 80) zm48 HT_ ?_
         refine zu 48 (some 81) zm49 HT_ ?_
         refine zp 49 (some 82) zm50 HT_ ?_
         refine done_ (done_of HT_.out (by kernel_rfl)) ?_
         try go_wp2
         go_ret
         exact ⟨by first | rfl | (simp [errW_none, errW_some] <;> rfl) | (simp [*, errW_none, errW_some] <;> rfl), by repeat (first | (with_reducible first | exact HB.out | apply below_alloc | apply pw_below_drewN | apply below_drew1 | refine below_set ?_ GE162.out | refine below_set ?_ GE166.out) | exact HB.out)⟩
       ·
        rw [if_neg c13] at H
        exact absurd H (by simp)
      ·
       rw [if_neg c12] at H
       have c12b0 : decide (x3_2 < (l0_2.length : Int)) = false := decide_eq_false c12
       clear c12
       obtain rfl := Option.some.inj H
       have hcz97_0 := bcq_5 BK162.out 0
       have hcz97_1 := bcq_5 BK162.out 1
       have hcz97_2 := bcq_5 BK162.out 2
       have hfz97_0 := blk_frozen BK162.out 0
       have hfz97_1 := blk_frozen BK162.out 1
       have hfz97_2 := blk_frozen BK162.out 2
       go_wp2
       go_ret
       exact ⟨by first | rfl | (simp [errW_none, errW_some] <;> rfl) | (simp [*, errW_none, errW_some] <;> rfl), by repeat (first | (with_reducible first | exact HB.out | apply below_alloc | apply pw_below_drewN | apply below_drew1 | refine below_set ?_ GE162.out) | exact HB.out)⟩

end Go.Proofs.YtjchggdekbnmnaaDoor.QFnExactDbResult
