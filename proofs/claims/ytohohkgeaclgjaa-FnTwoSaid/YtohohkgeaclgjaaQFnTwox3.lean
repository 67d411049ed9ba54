-- laid by this session's own runner (wip/print2.py): not a printed file
import Derived.Test.YtohohkgeaclgjaaQFnTwox0
import Derived.Test.YtohohkgeaclgjaaQFnTwox1
import Derived.Test.YtohohkgeaclgjaaQFnTwox2
namespace Go.Proofs.Ytohohkgeaclgjaa.QFnTwo
open Go.RowKit Go.Proofs.YtohohkgeaclgjaaW.PrintWords Go.Proofs.YtohohkgeaclgjaaW.PrintLast Go.Proofs.YtohohkgeaclgjaaW.PrintMore
attribute [local go_sem] max2_int min2_int max_two min_two max_three min_three max_four min_four   -- for this text's walks alone
set_option linter.unusedVariables false
set_option linter.unusedSimpArgs false

theorem zp {P : Program} {md : Region.Mode} {ops : Array Oper} {Q : Exit → Act → World → Prop} {S : World → Prop} {ds : List Nat} {T : Bool × List (List Nat × List Nat)} {fuel : Nat} {l : Array Bool} {a : Act} {w : World} {oi : Oper} {v : Value} {a' : Act} (i : Nat) (N : Option Tmp) (l' : Array Bool) (hT : Aside0 (rtab md ops = T))
    (h : wpAnyLast P md ops Q S ds fuel l' a' w) (hc : anyT T l.toList l'.toList i = true := by kernel_rfl) (hi : ops[i]? = some oi := by rfl) (hN : oi.dst = N := by rfl) (hQ : ∀ c a w, Q (.panic c) (a.put oi.dst v) w → Q (.panic c) a w := by exact fun _ _ _ h => h)
    (hy : Yields P ops oi v a := by (refine Or.inl ⟨by rfl, ?_⟩; intro w'; go_simp; with_reducible rfl)) (ha : a.put N v = a' := by (simp only [Act.put, List.setIfInBounds_toArray, List.set_cons_zero, List.set_cons_succ, i64_w, i32_w]; rfl)) : wpAnyLast P md ops Q S ds (fuel + 1) l a w :=
  pure_ l' hi hN (any_of hT.out hc) hQ hy ha h
theorem zu {P : Program} {md : Region.Mode} {ops : Array Oper} {Q : Exit → Act → World → Prop} {S : World → Prop} {ds : List Nat} {T : Bool × List (List Nat × List Nat)} {fuel : Nat} {l : Array Bool} {a : Act} {w : World} {oi : Oper} {a' : Act} (i : Nat) (N : Option Tmp) (l' : Array Bool) (hT : Aside0 (rtab md ops = T))
    (h : wpAnyLast P md ops Q S ds fuel l' a' w) (hc : anyT T l.toList l'.toList i = true := by kernel_rfl) (hi : ops[i]? = some oi := by rfl) (hN : oi.dst = N := by rfl) (hQ : ∀ c a w, Q (.panic c) (a.put oi.dst undef) w → Q (.panic c) a w := by exact fun _ _ _ h => h)
    (hy : Yields P ops oi undef a := by exact Or.inr ⟨by rfl, rfl⟩) (ha : a.put N undef = a' := by (simp only [Act.put, List.setIfInBounds_toArray, List.set_cons_zero, List.set_cons_succ, i64_w, i32_w]; rfl)) : wpAnyLast P md ops Q S ds (fuel + 1) l a w :=
  pure_ l' hi hN (any_of hT.out hc) hQ hy ha h
abbrev zm0 : Array Bool := #[false, false, false, false, false, false, false]
abbrev zm1 : Array Bool := #[false, true, false, false, false, false, false]
abbrev zm2 : Array Bool := #[false, true, true, false, false, false, false]
abbrev zm3 : Array Bool := #[true, true, true, false, false, false, false]
abbrev zm4 : Array Bool := #[true, true, true, true, false, false, false]
abbrev zm5 : Array Bool := #[true, true, true, true, true, false, false]
abbrev zm6 : Array Bool := #[true, true, true, true, true, true, false]
abbrev zm7 : Array Bool := #[true, true, true, true, true, true, true]
abbrev zm8 : Array Bool := #[false, false, false, false, false, false, false, false]
abbrev zm9 : Array Bool := #[false, true, false, false, false, false, false, false]
abbrev zm10 : Array Bool := #[false, true, true, false, false, false, false, false]
abbrev zm11 : Array Bool := #[false, true, true, true, false, false, false, false]
abbrev zm12 : Array Bool := #[true, true, true, true, false, false, false, false]
abbrev zm13 : Array Bool := #[true, true, true, true, true, false, false, false]
abbrev zm14 : Array Bool := #[true, true, true, true, true, true, false, false]
abbrev zm15 : Array Bool := #[true, true, true, true, true, true, true, false]
abbrev zm16 : Array Bool := #[true, true, true, true, true, true, true, true]
theorem bcq_3 {w : World} {g t : Nat} {cs : Array Value} {v : Value} (h : w.heap[g]? = some (.cells cs t (0, 0))) (j : Nat) (e : cs[j]? = some v := by rfl) : w.cell? ⟨g, j, none⟩ = some v := (blk_cell h j).trans e
theorem zb0_3 {P : Prop} (h : P := by repeat (first | (with_reducible first | exact HB.out | apply below_alloc | apply pw_below_drewN | apply below_drew1) | exact HB.out)) : P := h
theorem zb1_3 {P : Prop} (h : P := by (with_reducible repeat (first | refine blk_drewN ?_ _ | refine blk_drew ?_ | refine blk_alloc ?_ _)); exact BK117.out) : P := h
theorem zb2_3 {P : Prop} (h : P := by repeat (first | (with_reducible first | exact HB.out | apply below_alloc | apply pw_below_drewN | apply below_drew1 | refine below_set ?_ GE117.out) | exact HB.out)) : P := h
theorem zb3_3 {P : Prop} (h : P := by repeat (first | (with_reducible first | exact HB.out | apply below_alloc | apply pw_below_drewN | apply below_drew1 | refine below_set ?_ GE117.out | refine below_set ?_ GE118.out) | exact HB.out)) : P := h
theorem zb4_3 {P : Prop} (h : P := by (with_reducible repeat (first | refine blk_drewN ?_ _ | refine blk_drew ?_ | refine blk_alloc ?_ _)); exact BK118.out) : P := h
theorem zb5_3 {P : Prop} (h : P := by first | rfl | (simp; done) | (simp [*]; done)) : P := h
theorem zb6_3 {P : Prop} (h : P := by (try simp only [List.map_toArray, List.map_cons, List.map_nil]); first | done | rfl | (simp only [List.length_drop, List.length_take]; rfl)) : P := h
theorem zb7_3 {P : Prop} (h : P := by (with_reducible repeat (first | apply Kd.Q_alloc | apply Kd.Q_drewN | apply Kd.Q_drew)); exact HO_5.out) : P := h
theorem zb8_3 {P : Prop} (h : P := by (with_reducible repeat (first | apply Kd.Q_alloc | apply Kd.Q_drewN | apply Kd.Q_drew)); exact HO_6.out) : P := h
theorem zb9_3 {P : Prop} (h : P := by rw [hg]; exact (below_size (by repeat (first | (with_reducible first | exact HB.out | apply below_alloc | apply pw_below_drewN | apply below_drew1 | refine below_set ?_ GE117.out | refine below_set ?_ GE118.out) | exact HB.out)))) : P := h
theorem zb10_3 {P : Prop} (h : P := by rw [hg]; exact Nat.ne_of_lt (blk_lt (g := gb117) (o := .cells #[.int .i64 x118000_1, .int .i64 x118001_1, .int .i64 x118002_1, .int .i64 x118003_1, .int .i64 x118004_1] 24 (0, 0)) (by (with_reducible repeat (first | refine blk_drewN ?_ _ | refine blk_drew ?_ | refine blk_alloc ?_ _)); exact BK117.out))) : P := h
theorem zb11_3 {P : Prop} (h : P := by rw [hg]; exact Nat.ne_of_gt (blk_lt (g := gb117) (o := .cells #[.int .i64 x118000_1, .int .i64 x118001_1, .int .i64 x118002_1, .int .i64 x118003_1, .int .i64 x118004_1] 24 (0, 0)) (by (with_reducible repeat (first | refine blk_drewN ?_ _ | refine blk_drew ?_ | refine blk_alloc ?_ _)); exact BK117.out))) : P := h
theorem zb12_3 {P : Prop} (h : P := by rw [hg]; exact Nat.ne_of_lt (blk_lt (g := gb118) (o := .cells #[.int .i64 x119000_1, .int .i64 x119001_1, .int .i64 x119002_1, .int .i64 x119003_1, .int .i64 x119004_1] 24 (0, 0)) (by (with_reducible repeat (first | refine blk_drewN ?_ _ | refine blk_drew ?_ | refine blk_alloc ?_ _)); exact BK118.out))) : P := h
theorem zb13_3 {P : Prop} (h : P := by rw [hg]; exact Nat.ne_of_gt (blk_lt (g := gb118) (o := .cells #[.int .i64 x119000_1, .int .i64 x119001_1, .int .i64 x119002_1, .int .i64 x119003_1, .int .i64 x119004_1] 24 (0, 0)) (by (with_reducible repeat (first | refine blk_drewN ?_ _ | refine blk_drew ?_ | refine blk_alloc ?_ _)); exact BK118.out))) : P := h
theorem zb14_3 {P : Prop} (h : P := by repeat (first | (with_reducible first | exact HB.out | apply below_alloc | apply pw_below_drewN | apply below_drew1 | refine below_set ?_ GE117.out | refine below_set ?_ GE118.out | refine below_set ?_ GE126.out) | exact HB.out)) : P := h
theorem zb15_3 {P : Prop} (h : P := by (with_reducible repeat (first | apply Kd.Q_alloc | apply Kd.Q_drewN | apply Kd.Q_drew)); exact (Kd.Q_mono (Kd.Q_far (p := ⟨gb126, 6, none⟩) (Kd.Q_far (p := ⟨gb126, 5, none⟩) (Kd.Q_far (p := ⟨gb126, 4, none⟩) (Kd.Q_far (p := ⟨gb126, 3, none⟩) (Kd.Q_far (p := ⟨gb126, 2, none⟩) (Kd.Q_far (p := ⟨gb126, 1, none⟩) (Kd.Q_far (p := ⟨gb126, 0, none⟩) (Kd.Q_types HO_5.out BK126.out (by decide)) (fun _ hk => hk.2) (.int .i64 0)) (fun _ hk => hk.2) (.int .i64 0)) (fun _ hk => hk.2) (.int .i64 0)) (fun _ hk => hk.2) (.int .i64 0)) (fun _ hk => hk.2) (.int .i64 0)) (fun _ hk => hk.2) (.slice none 0 0)) (fun _ hk => hk.2) (.int .i64 10)) (fun _ h_ => h_.1))) : P := h
theorem zb16_3 {P : Prop} (h : P := by (with_reducible repeat (first | apply Kd.Q_alloc | apply Kd.Q_drewN | apply Kd.Q_drew)); exact (Kd.Q_mono (Kd.Q_far (p := ⟨gb126, 6, none⟩) (Kd.Q_far (p := ⟨gb126, 5, none⟩) (Kd.Q_far (p := ⟨gb126, 4, none⟩) (Kd.Q_far (p := ⟨gb126, 3, none⟩) (Kd.Q_far (p := ⟨gb126, 2, none⟩) (Kd.Q_far (p := ⟨gb126, 1, none⟩) (Kd.Q_far (p := ⟨gb126, 0, none⟩) (Kd.Q_types HO_6.out BK126.out (by decide)) (fun _ hk => hk.2) (.int .i64 0)) (fun _ hk => hk.2) (.int .i64 0)) (fun _ hk => hk.2) (.int .i64 0)) (fun _ hk => hk.2) (.int .i64 0)) (fun _ hk => hk.2) (.int .i64 0)) (fun _ hk => hk.2) (.slice none 0 0)) (fun _ hk => hk.2) (.int .i64 10)) (fun _ h_ => h_.1))) : P := h
theorem zb17_3 {P : Prop} (h : P := by (with_reducible repeat (first | refine blk_drewN ?_ _ | refine blk_drew ?_ | refine blk_alloc ?_ _)); refine blk_far ?_ NB117_126.out _; (with_reducible repeat (first | refine blk_drewN ?_ _ | refine blk_drew ?_ | refine blk_alloc ?_ _)); refine blk_far ?_ NB117_126.out _; (with_reducible repeat (first | refine blk_drewN ?_ _ | refine blk_drew ?_ | refine blk_alloc ?_ _)); refine blk_far ?_ NB117_126.out _; (with_reducible repeat (first | refine blk_drewN ?_ _ | refine blk_drew ?_ | refine blk_alloc ?_ _)); refine blk_far ?_ NB117_126.out _; (with_reducible repeat (first | refine blk_drewN ?_ _ | refine blk_drew ?_ | refine blk_alloc ?_ _)); refine blk_far ?_ NB117_126.out _; (with_reducible repeat (first | refine blk_drewN ?_ _ | refine blk_drew ?_ | refine blk_alloc ?_ _)); refine blk_far ?_ NB117_126.out _; (with_reducible repeat (first | refine blk_drewN ?_ _ | refine blk_drew ?_ | refine blk_alloc ?_ _)); refine blk_far ?_ NB117_126.out _; (with_reducible repeat (first | refine blk_drewN ?_ _ | refine blk_drew ?_ | refine blk_alloc ?_ _)); exact BK117.out) : P := h
theorem zb18_3 {P : Prop} (h : P := by (with_reducible repeat (first | refine blk_drewN ?_ _ | refine blk_drew ?_ | refine blk_alloc ?_ _)); refine blk_far ?_ NB118_126.out _; (with_reducible repeat (first | refine blk_drewN ?_ _ | refine blk_drew ?_ | refine blk_alloc ?_ _)); refine blk_far ?_ NB118_126.out _; (with_reducible repeat (first | refine blk_drewN ?_ _ | refine blk_drew ?_ | refine blk_alloc ?_ _)); refine blk_far ?_ NB118_126.out _; (with_reducible repeat (first | refine blk_drewN ?_ _ | refine blk_drew ?_ | refine blk_alloc ?_ _)); refine blk_far ?_ NB118_126.out _; (with_reducible repeat (first | refine blk_drewN ?_ _ | refine blk_drew ?_ | refine blk_alloc ?_ _)); refine blk_far ?_ NB118_126.out _; (with_reducible repeat (first | refine blk_drewN ?_ _ | refine blk_drew ?_ | refine blk_alloc ?_ _)); refine blk_far ?_ NB118_126.out _; (with_reducible repeat (first | refine blk_drewN ?_ _ | refine blk_drew ?_ | refine blk_alloc ?_ _)); refine blk_far ?_ NB118_126.out _; (with_reducible repeat (first | refine blk_drewN ?_ _ | refine blk_drew ?_ | refine blk_alloc ?_ _)); exact BK118.out) : P := h
theorem zb19_3 {P : Prop} (h : P := by (with_reducible repeat (first | refine blk_drewN ?_ _ | refine blk_drew ?_ | refine blk_alloc ?_ _)); refine blk_put (cs := #[.int .i64 0, .int .i64 0, .int .i64 0, .int .i64 0, .int .i64 0, .slice none 0 0, .int .i64 0]) ?_ 6 _ rfl; (with_reducible repeat (first | refine blk_drewN ?_ _ | refine blk_drew ?_ | refine blk_alloc ?_ _)); refine blk_put (cs := #[.int .i64 0, .int .i64 0, .int .i64 0, .int .i64 0, .int .i64 0, .slice none 0 0, .int .i64 0]) ?_ 5 _ rfl; (with_reducible repeat (first | refine blk_drewN ?_ _ | refine blk_drew ?_ | refine blk_alloc ?_ _)); refine blk_put (cs := #[.int .i64 0, .int .i64 0, .int .i64 0, .int .i64 0, .int .i64 0, .slice none 0 0, .int .i64 0]) ?_ 4 _ rfl; (with_reducible repeat (first | refine blk_drewN ?_ _ | refine blk_drew ?_ | refine blk_alloc ?_ _)); refine blk_put (cs := #[.int .i64 0, .int .i64 0, .int .i64 0, .int .i64 0, .int .i64 0, .slice none 0 0, .int .i64 0]) ?_ 3 _ rfl; (with_reducible repeat (first | refine blk_drewN ?_ _ | refine blk_drew ?_ | refine blk_alloc ?_ _)); refine blk_put (cs := #[.int .i64 0, .int .i64 0, .int .i64 0, .int .i64 0, .int .i64 0, .slice none 0 0, .int .i64 0]) ?_ 2 _ rfl; (with_reducible repeat (first | refine blk_drewN ?_ _ | refine blk_drew ?_ | refine blk_alloc ?_ _)); refine blk_put (cs := #[.int .i64 0, .int .i64 0, .int .i64 0, .int .i64 0, .int .i64 0, .slice none 0 0, .int .i64 0]) ?_ 1 _ rfl; (with_reducible repeat (first | refine blk_drewN ?_ _ | refine blk_drew ?_ | refine blk_alloc ?_ _)); refine blk_put (cs := #[.int .i64 0, .int .i64 0, .int .i64 0, .int .i64 0, .int .i64 0, .slice none 0 0, .int .i64 0]) ?_ 0 _ rfl; (with_reducible repeat (first | refine blk_drewN ?_ _ | refine blk_drew ?_ | refine blk_alloc ?_ _)); exact BK126.out) : P := h
theorem zb20_3 {P : Prop} (h : P := by (with_reducible repeat (first | refine blk_drewN ?_ _ | refine blk_drew ?_ | refine blk_alloc ?_ _)); exact BK126.out) : P := h
theorem zb21_3 {P : Prop} (h : P := by first | (with_reducible assumption) | assumption) : P := h
/-! ### laws_FnTwo: function 3 -/
mutual
def laws_FnTwo.l0 : Nat → List Int → List (S32) → List (S32) → Int → Int → Int → Int → Int → Int → Int → Int → Int → Int → Int → Option (Bool)
 | 0, _, _, _, _, _, _, _, _, _, _, _, _, _, _ => none
 | k + 1, x0, x5, x6, x7, x118000, x118001, x118002, x118003, x118004, x119000, x119001, x119002, x119003, x119004 => if x7 < 60 then ((laws_lwAt.f x0 (wrap64 (2 * x7)) 4).bind fun t125 => ((laws_lwAt.f x0 (wrap64 ((wrap64 (2 * x7)) + 1)) 4).bind fun t127 => (if t127 = 0 then ((impl_HalfSay.f x118000 x118001 x118002 x118003 x118004 (wrap64 (1 + t125))).bind fun bt128 => (if bt128.2.2.2.2.2.2 = 0 then (if x5.length + bt128.2.2.2.2.2.1.length < 8796093022208 then (laws_FnTwo.l0 k x0 (x5 ++ bt128.2.2.2.2.2.1) x6 (wrap64 (x7 + 1)) bt128.1 bt128.2.1 bt128.2.2.1 bt128.2.2.2.1 bt128.2.2.2.2.1 x119000 x119001 x119002 x119003 x119004) else (none)) else (laws_FnTwo.l0 k x0 x5 x6 (wrap64 (x7 + 1)) x118000 x118001 x118002 x118003 x118004 x119000 x119001 x119002 x119003 x119004))) else (if t127 = 1 then ((impl_HalfSay.f x119000 x119001 x119002 x119003 x119004 (wrap64 (1 + t125))).bind fun bt140 => (if bt140.2.2.2.2.2.2 = 0 then (if x6.length + bt140.2.2.2.2.2.1.length < 8796093022208 then (laws_FnTwo.l0 k x0 x5 (x6 ++ bt140.2.2.2.2.2.1) (wrap64 (x7 + 1)) x118000 x118001 x118002 x118003 x118004 bt140.1 bt140.2.1 bt140.2.2.1 bt140.2.2.2.1 bt140.2.2.2.2.1) else (none)) else (laws_FnTwo.l0 k x0 x5 x6 (wrap64 (x7 + 1)) x118000 x118001 x118002 x118003 x118004 x119000 x119001 x119002 x119003 x119004))) else (if t127 = 2 then (if (x5.length : Int) > 0 then (if 0 < (x5.length : Int) then ((impl_HalfHear.f x119000 x119001 x119002 x119003 x119004 ((rd_T32 x5 0).f0) ((rd_T32 x5 0).f1)).bind fun bt153 => (if 1 ≤ (x5.length : Int) then (laws_FnTwo.l0 k x0 (x5.drop (1 : Int).toNat) x6 (wrap64 (x7 + 1)) x118000 x118001 x118002 x118003 x118004 bt153.1 bt153.2.1 bt153.2.2.1 bt153.2.2.2.1 bt153.2.2.2.2.1) else (none))) else (none)) else (laws_FnTwo.l0 k x0 x5 x6 (wrap64 (x7 + 1)) x118000 x118001 x118002 x118003 x118004 x119000 x119001 x119002 x119003 x119004)) else (if (x6.length : Int) > 0 then (if 0 < (x6.length : Int) then ((impl_HalfHear.f x118000 x118001 x118002 x118003 x118004 ((rd_T32 x6 0).f0) ((rd_T32 x6 0).f1)).bind fun bt166 => (if 1 ≤ (x6.length : Int) then (laws_FnTwo.l0 k x0 x5 (x6.drop (1 : Int).toNat) (wrap64 (x7 + 1)) bt166.1 bt166.2.1 bt166.2.2.1 bt166.2.2.2.1 bt166.2.2.2.2.1 x119000 x119001 x119002 x119003 x119004) else (none))) else (none)) else (laws_FnTwo.l0 k x0 x5 x6 (wrap64 (x7 + 1)) x118000 x118001 x118002 x118003 x118004 x119000 x119001 x119002 x119003 x119004))))))) else (laws_FnTwo.l1 k x5 x6 0 x118000 x118001 x118002 x118003 x118004 x119000 x119001 x119002 x119003 x119004)
def laws_FnTwo.l1 : Nat → List (S32) → List (S32) → Int → Int → Int → Int → Int → Int → Int → Int → Int → Int → Int → Option (Bool)
 | 0, _, _, _, _, _, _, _, _, _, _, _, _, _ => none
 | k + 1, x5, x6, x10, x118000, x118001, x118002, x118003, x118004, x119000, x119001, x119002, x119003, x119004 => if x10 < (x5.length : Int) then (if 0 ≤ x10 then ((impl_HalfHear.f x119000 x119001 x119002 x119003 x119004 ((rd_T32 x5 x10).f0) ((rd_T32 x5 x10).f1)).bind fun bt179 => (laws_FnTwo.l1 k x5 x6 (wrap64 (x10 + 1)) x118000 x118001 x118002 x118003 x118004 bt179.1 bt179.2.1 bt179.2.2.1 bt179.2.2.2.1 bt179.2.2.2.2.1)) else (none)) else (laws_FnTwo.l2 k x6 0 x118000 x118001 x118002 x118003 x118004 x119000 x119001 x119002 x119003 x119004)
def laws_FnTwo.l2 : Nat → List (S32) → Int → Int → Int → Int → Int → Int → Int → Int → Int → Int → Int → Option (Bool)
 | 0, _, _, _, _, _, _, _, _, _, _, _, _ => none
 | k + 1, x6, x11, x118000, x118001, x118002, x118003, x118004, x119000, x119001, x119002, x119003, x119004 => if x11 < (x6.length : Int) then (if 0 ≤ x11 then ((impl_HalfHear.f x118000 x118001 x118002 x118003 x118004 ((rd_T32 x6 x11).f0) ((rd_T32 x6 x11).f1)).bind fun bt189 => (laws_FnTwo.l2 k x6 (wrap64 (x11 + 1)) bt189.1 bt189.2.1 bt189.2.2.1 bt189.2.2.2.1 bt189.2.2.2.2.1 x119000 x119001 x119002 x119003 x119004)) else (none)) else ((impl_HalfSay.f 0 0 0 0 0 1).bind fun bt198 => ((laws_lwSame.f x118000 x118001 x118002 x118003 x118004 x119000 x119001 x119002 x119003 x119004).bind fun t208 => (if t208 = true then (if bt198.2.2.2.2.2.2 = 0 then (some (bt198.2.1 == 1)) else (some false)) else (some false))))
end
def laws_FnTwo.f (k : Nat) (l0 : List Int) : Option (Bool) := if (l0.length : Int) > 1048576 then (some true) else (laws_FnTwo.l0 k l0 (([] : List (S32))) (([] : List (S32))) 0 0 0 0 0 0 0 0 0 0 0)
theorem laws_FnTwo.mono_l : ∀ k, (∀ y0 y1 y2 y3 y4 y5 y6 y7 y8 y9 y10 y11 y12 y13, LeO (laws_FnTwo.l0 k y0 y1 y2 y3 y4 y5 y6 y7 y8 y9 y10 y11 y12 y13) (laws_FnTwo.l0 (k + 1) y0 y1 y2 y3 y4 y5 y6 y7 y8 y9 y10 y11 y12 y13)) ∧ (∀ y0 y1 y2 y3 y4 y5 y6 y7 y8 y9 y10 y11 y12, LeO (laws_FnTwo.l1 k y0 y1 y2 y3 y4 y5 y6 y7 y8 y9 y10 y11 y12) (laws_FnTwo.l1 (k + 1) y0 y1 y2 y3 y4 y5 y6 y7 y8 y9 y10 y11 y12)) ∧ (∀ y0 y1 y2 y3 y4 y5 y6 y7 y8 y9 y10 y11, LeO (laws_FnTwo.l2 k y0 y1 y2 y3 y4 y5 y6 y7 y8 y9 y10 y11) (laws_FnTwo.l2 (k + 1) y0 y1 y2 y3 y4 y5 y6 y7 y8 y9 y10 y11))
 | 0 => ⟨fun _ _ _ _ _ _ _ _ _ _ _ _ _ _ r h => by simp [laws_FnTwo.l0] at h, fun _ _ _ _ _ _ _ _ _ _ _ _ _ r h => by simp [laws_FnTwo.l1] at h, fun _ _ _ _ _ _ _ _ _ _ _ _ r h => by simp [laws_FnTwo.l2] at h⟩
 | k + 1 => by
  obtain ⟨ih0, ih1, ih2⟩ := laws_FnTwo.mono_l k
  refine ⟨?_, ?_, ?_⟩
  ·
   intro y0 y1 y2 y3 y4 y5 y6 y7 y8 y9 y10 y11 y12 y13
   unfold laws_FnTwo.l0
   repeat' first
   | (with_reducible exact ih0 _ _ _ _ _ _ _ _ _ _ _ _ _ _)
   | (with_reducible exact ih1 _ _ _ _ _ _ _ _ _ _ _ _ _)
   | (with_reducible exact ih2 _ _ _ _ _ _ _ _ _ _ _ _)
   | (with_reducible exact LeO.refl _)
   | (with_reducible exact LeO.none _)
   | (with_reducible refine LeO.ite ?_ ?_)
   | (with_reducible refine LeO.bind ?_ (fun _ => ?_))
   | exact ih0 _ _ _ _ _ _ _ _ _ _ _ _ _ _
   | exact ih1 _ _ _ _ _ _ _ _ _ _ _ _ _
   | exact ih2 _ _ _ _ _ _ _ _ _ _ _ _
   | exact LeO.none _
   | refine LeO.ite ?_ ?_
   | refine LeO.bind ?_ (fun _ => ?_)
  ·
   intro y0 y1 y2 y3 y4 y5 y6 y7 y8 y9 y10 y11 y12
   unfold laws_FnTwo.l1
   repeat' first
   | (with_reducible exact ih0 _ _ _ _ _ _ _ _ _ _ _ _ _ _)
   | (with_reducible exact ih1 _ _ _ _ _ _ _ _ _ _ _ _ _)
   | (with_reducible exact ih2 _ _ _ _ _ _ _ _ _ _ _ _)
   | (with_reducible exact LeO.refl _)
   | (with_reducible exact LeO.none _)
   | (with_reducible refine LeO.ite ?_ ?_)
   | (with_reducible refine LeO.bind ?_ (fun _ => ?_))
   | exact ih0 _ _ _ _ _ _ _ _ _ _ _ _ _ _
   | exact ih1 _ _ _ _ _ _ _ _ _ _ _ _ _
   | exact ih2 _ _ _ _ _ _ _ _ _ _ _ _
   | exact LeO.none _
   | refine LeO.ite ?_ ?_
   | refine LeO.bind ?_ (fun _ => ?_)
  ·
   intro y0 y1 y2 y3 y4 y5 y6 y7 y8 y9 y10 y11
   unfold laws_FnTwo.l2
   repeat' first
   | (with_reducible exact ih0 _ _ _ _ _ _ _ _ _ _ _ _ _ _)
   | (with_reducible exact ih1 _ _ _ _ _ _ _ _ _ _ _ _ _)
   | (with_reducible exact ih2 _ _ _ _ _ _ _ _ _ _ _ _)
   | (with_reducible exact LeO.refl _)
   | (with_reducible exact LeO.none _)
   | (with_reducible refine LeO.ite ?_ ?_)
   | (with_reducible refine LeO.bind ?_ (fun _ => ?_))
   | exact ih0 _ _ _ _ _ _ _ _ _ _ _ _ _ _
   | exact ih1 _ _ _ _ _ _ _ _ _ _ _ _ _
   | exact ih2 _ _ _ _ _ _ _ _ _ _ _ _
   | exact LeO.none _
   | refine LeO.ite ?_ ?_
   | refine LeO.bind ?_ (fun _ => ?_)
theorem laws_FnTwo.mono : ∀ a0 k, LeO (laws_FnTwo.f k a0) (laws_FnTwo.f (k + 1) a0) := by
 intro a0 k
 obtain ⟨ih0, ih1, ih2⟩ := laws_FnTwo.mono_l k
 unfold laws_FnTwo.f
 repeat' first
   | (with_reducible exact ih0 _ _ _ _ _ _ _ _ _ _ _ _ _ _)
   | (with_reducible exact ih1 _ _ _ _ _ _ _ _ _ _ _ _ _)
   | (with_reducible exact ih2 _ _ _ _ _ _ _ _ _ _ _ _)
   | (with_reducible exact LeO.refl _)
   | (with_reducible exact LeO.none _)
   | (with_reducible refine LeO.ite ?_ ?_)
   | (with_reducible refine LeO.bind ?_ (fun _ => ?_))
   | exact ih0 _ _ _ _ _ _ _ _ _ _ _ _ _ _
   | exact ih1 _ _ _ _ _ _ _ _ _ _ _ _ _
   | exact ih2 _ _ _ _ _ _ _ _ _ _ _ _
   | exact LeO.none _
   | refine LeO.ite ?_ ?_
   | refine LeO.bind ?_ (fun _ => ?_)
def laws_FnTwo.T31 : Bool × List (List Nat × List Nat) := (true, [([], []), ([], []), ([], []), ([1, 2], [1, 2]), ([3], [3]), ([0, 4], [0, 4]), ([5], [5]), ([6, 5, 0, 1, 2, 3, 4, 5, 6], [6])])
def laws_FnTwo.B31 : List Nat := [0, 0, 0, 6, 14, 31, 63, 127]
theorem laws_FnTwo.tab31 : rtab .any (opsOf Try.f3 31) = laws_FnTwo.T31 := by kernel_rfl
theorem laws_FnTwo.bits31 : waitsOk laws_FnTwo.T31.2 laws_FnTwo.B31 = true := by kernel_rfl
def laws_FnTwo.T35 : Bool × List (List Nat × List Nat) := (true, [([], []), ([], []), ([], []), ([1, 2], [1, 2]), ([3], [3]), ([0, 4], [0, 4]), ([5], [5]), ([6, 5, 0, 1, 2, 3, 4, 5, 6], [6])])
def laws_FnTwo.B35 : List Nat := [0, 0, 0, 6, 14, 31, 63, 127]
theorem laws_FnTwo.tab35 : rtab .any (opsOf Try.f3 35) = laws_FnTwo.T35 := by kernel_rfl
theorem laws_FnTwo.bits35 : waitsOk laws_FnTwo.T35.2 laws_FnTwo.B35 = true := by kernel_rfl
set_option maxHeartbeats 8000000 in
set_option maxRecDepth 100000 in
theorem laws_FnTwo.calls (k : Nat) (A0 : Option Addr) (c0 : Nat) (l0 : List Int) (r : Bool) (w : World) (hr0 : Kd.C (Kd.int .u8) w A0 l0.length l0) (hc0 : l0.length ≤ c0) (h : laws_FnTwo.f k l0 = some r) (hrt0 : r = true) :
  Calls Try.prog 3 #[.slice A0 l0.length c0] w fun e w' => e = .returned (.bool r) ∧ Below w.heap.size w w' := by
 have hrt := Aside0.mk hrt0
 clear hrt0
 have hu24 := Try.underlying24
 have hu28 := Try.underlying28
 have hu32 := Try.underlying32
 have hfl28_0 : ∀ (u0_ u1_ u2_ u3_ u4_ u5_ u6_ : Value) (W_ : World), (Instr.field 28 (.agg #[u0_, u1_, u2_, u3_, u4_, u5_, u6_]) 0).run Try.prog W_ = .ok (.agg #[u0_, u1_, u2_, u3_, u4_]) W_ := fun _ _ _ _ _ _ _ _ => by rfl
 have HR0 := Aside0.mk hr0
 have HC0 := Aside0.mk hc0
 clear hr0 hc0
 have HB := Aside0.mk (Below.refl w.heap.size w)
 have H : (if (l0.length : Int) > 1048576 then (some true) else (laws_FnTwo.l0 k l0 (([] : List (S32))) (([] : List (S32))) 0 0 0 0 0 0 0 0 0 0 0)) = some r := h
 clear h
 by_cases c2 : (l0.length : Int) > 1048576
 ·
  rw [if_pos c2] at H
  have c2b0 : decide (1048576 < (l0.length : Int)) = true := decide_eq_true c2
  have c2b1 : decide (1048576 < l0.length) = true := decide_eq_true (by omega)
  clear c2
  obtain rfl := Option.some.inj H
  go_enter Try.func3, Try.ntmps3
  go_wp2
  go_ret
  exact ⟨by first | rfl | (simp [errW_none, errW_some] <;> rfl) | (simp [*, errW_none, errW_some] <;> rfl), by repeat (first | (with_reducible first | exact HB.out | apply below_alloc | apply pw_below_drewN | apply below_drew1) | exact HB.out)⟩
 ·
  rw [if_neg c2] at H
  have c2b0 : decide (1048576 < (l0.length : Int)) = false := decide_eq_false c2
  have c2b1 : decide (1048576 < l0.length) = false := decide_eq_false (by omega)
  clear c2
  obtain ⟨y119, hy119⟩ : ∃ y_ : List (S32), y_ = (([] : List (S32))) := ⟨_, rfl⟩
  replace H : (laws_FnTwo.l0 k l0 y119 (([] : List (S32))) 0 0 0 0 0 0 0 0 0 0 0) = some r := by first | (rw [hy119]; with_reducible exact H) | (have H2_ := (Option.bind_some _ _).symm.trans H; rw [hy119]; with_reducible exact H2_) | (have H2_ := (Option.bind_some _ _).symm.trans H; with_reducible exact H2_) | with_reducible exact H | (rw [hy119]; exact H) | exact H
  have Ny119 := Aside0.mk hy119
  clear hy119
  obtain ⟨y122, hy122⟩ : ∃ y_ : List (S32), y_ = (([] : List (S32))) := ⟨_, rfl⟩
  replace H : (laws_FnTwo.l0 k l0 y119 y122 0 0 0 0 0 0 0 0 0 0 0) = some r := by first | (rw [hy122]; with_reducible exact H) | (have H2_ := (Option.bind_some _ _).symm.trans H; rw [hy122]; with_reducible exact H2_) | (have H2_ := (Option.bind_some _ _).symm.trans H; with_reducible exact H2_) | with_reducible exact H | (rw [hy122]; exact H) | exact H
  have Ny122 := Aside0.mk hy122
  clear hy122
  have H' := Aside0.mk H
  clear H
  go_enter Try.func3, Try.ntmps3
  go_wp2_with (first | ((with_reducible refine gate_dst (N := 3) rfl ?_); refine box_event ?hg (N := 3) ?hd (cs := #[.int .i64 0, .int .i64 0, .int .i64 0, .int .i64 0, .int .i64 0]) (t := 24) ?hr ?_; (case hd => rfl); (case hg => rfl); (case hr => first | (go_simp; done) | (go_simp; rfl)); intro gb117 hg w3 hbox hb; have n0_ := Aside0.mk (below_step zb0_3 hb); have n1_ := Aside0.mk (hbox); have n2_ := Aside0.mk ((by rw [hg]; exact (below_size zb0_3) : w.heap.size ≤ gb117)); have n3_ := Aside0.mk ((by rw [hg]; exact (below_size zb0_3) : w.heap.size ≤ gb117)); clear HB; have HB := n0_; have BK117 := n1_; have GW117 := n2_; have GE117 := n3_; clear n0_ n1_ n2_ n3_; clear hb hbox hg) | ((with_reducible refine gate_dst (N := 4) rfl ?_); refine box_event ?hg (N := 4) ?hd (cs := #[.int .i64 0, .int .i64 0, .int .i64 0, .int .i64 0, .int .i64 0]) (t := 24) ?hr ?_; (case hd => rfl); (case hg => rfl); (case hr => first | (go_simp; done) | (go_simp; rfl)); intro gb118 hg w4 hbox hb; have n0_ := Aside0.mk (blk_below (g := gb117) (o := .cells #[.int .i64 0, .int .i64 0, .int .i64 0, .int .i64 0, .int .i64 0] 24 (0, 0)) zb1_3 hb); have n1_ := Aside0.mk (below_step zb2_3 hb); have n2_ := Aside0.mk (hbox); have n3_ := Aside0.mk ((by rw [hg]; exact (below_size zb2_3) : w.heap.size ≤ gb118)); have n4_ := Aside0.mk ((by rw [hg]; exact (below_size zb2_3) : w.heap.size ≤ gb118)); have n5_ := Aside0.mk ((by rw [hg]; exact Nat.ne_of_lt (blk_lt (g := gb117) (o := .cells #[.int .i64 0, .int .i64 0, .int .i64 0, .int .i64 0, .int .i64 0] 24 (0, 0)) zb1_3) : gb117 ≠ gb118)); have n6_ := Aside0.mk ((by rw [hg]; exact Nat.ne_of_gt (blk_lt (g := gb117) (o := .cells #[.int .i64 0, .int .i64 0, .int .i64 0, .int .i64 0, .int .i64 0] 24 (0, 0)) zb1_3) : gb118 ≠ gb117)); clear BK117; clear HB; have BK117 := n0_; have HB := n1_; have BK118 := n2_; have GW118 := n3_; have GE118 := n4_; have NB117_118 := n5_; have NB118_117 := n6_; clear n0_ n1_ n2_ n3_ n4_ n5_ n6_; clear hb hbox hg; have hnb5 := NB117_118.out; have hnc5 := NB118_117.out; have hcz6_0 := bcq_3 BK117.out 0; have hcz6_1 := bcq_3 BK117.out 1; have hcz6_2 := bcq_3 BK117.out 2; have hcz6_3 := bcq_3 BK117.out 3; have hcz6_4 := bcq_3 BK117.out 4; have hfz6_0 := blk_frozen BK117.out 0; have hfz6_1 := blk_frozen BK117.out 1; have hfz6_2 := blk_frozen BK117.out 2; have hfz6_3 := blk_frozen BK117.out 3; have hfz6_4 := blk_frozen BK117.out 4; have hcz7_0 := bcq_3 BK118.out 0; have hcz7_1 := bcq_3 BK118.out 1; have hcz7_2 := bcq_3 BK118.out 2; have hcz7_3 := bcq_3 BK118.out 3; have hcz7_4 := bcq_3 BK118.out 4; have hfz7_0 := blk_frozen BK118.out 0; have hfz7_1 := blk_frozen BK118.out 1; have hfz7_2 := blk_frozen BK118.out 2; have hfz7_3 := blk_frozen BK118.out 3; have hfz7_4 := blk_frozen BK118.out 4) | ((with_reducible refine gate_dst (N := 18) rfl ?_); refine Kd.R_lit k32 _ 32 ?hg (N := 18) ?hd (xs := ([] : List (S32))) (inner := []) (ok := fun _ => True) (okp := fun _ => True) ?hr ?hp (fun _ hk => hk) trivial (Below.refl _ _) (Nat.le_refl _) (by simp) ?_; (case hd => rfl); (case hg => rfl); (case hr => first | (go_simp; done) | (go_simp; rfl)); (case hp => exact (Reps.none _ _)); intro v120 w8 ho9 hb hg_ hnew_; clear hg_ hnew_; (first | rw [← Ny119.out] at ho9 | (simp only [Int.reduceToNat] at ho9; rw [← Ny119.out] at ho9)); have n0_ := Aside0.mk (Kd.R_lower ho9 (below_size zb3_3)); have n1_ := Aside0.mk (blk_below (g := gb117) (o := .cells #[.int .i64 0, .int .i64 0, .int .i64 0, .int .i64 0, .int .i64 0] 24 (0, 0)) (by (with_reducible repeat (first | refine blk_drewN ?_ _ | refine blk_drew ?_ | refine blk_alloc ?_ _)); refine blk_far ?_ NB117_118.out _; (with_reducible repeat (first | refine blk_drewN ?_ _ | refine blk_drew ?_ | refine blk_alloc ?_ _)); refine blk_far ?_ NB117_118.out _; (with_reducible repeat (first | refine blk_drewN ?_ _ | refine blk_drew ?_ | refine blk_alloc ?_ _)); refine blk_far ?_ NB117_118.out _; (with_reducible repeat (first | refine blk_drewN ?_ _ | refine blk_drew ?_ | refine blk_alloc ?_ _)); refine blk_far ?_ NB117_118.out _; (with_reducible repeat (first | refine blk_drewN ?_ _ | refine blk_drew ?_ | refine blk_alloc ?_ _)); refine blk_far ?_ NB117_118.out _; (with_reducible repeat (first | refine blk_drewN ?_ _ | refine blk_drew ?_ | refine blk_alloc ?_ _)); refine blk_put (cs := #[.int .i64 0, .int .i64 0, .int .i64 0, .int .i64 0, .int .i64 0]) ?_ 4 _ rfl; (with_reducible repeat (first | refine blk_drewN ?_ _ | refine blk_drew ?_ | refine blk_alloc ?_ _)); refine blk_put (cs := #[.int .i64 0, .int .i64 0, .int .i64 0, .int .i64 0, .int .i64 0]) ?_ 3 _ rfl; (with_reducible repeat (first | refine blk_drewN ?_ _ | refine blk_drew ?_ | refine blk_alloc ?_ _)); refine blk_put (cs := #[.int .i64 0, .int .i64 0, .int .i64 0, .int .i64 0, .int .i64 0]) ?_ 2 _ rfl; (with_reducible repeat (first | refine blk_drewN ?_ _ | refine blk_drew ?_ | refine blk_alloc ?_ _)); refine blk_put (cs := #[.int .i64 0, .int .i64 0, .int .i64 0, .int .i64 0, .int .i64 0]) ?_ 1 _ rfl; (with_reducible repeat (first | refine blk_drewN ?_ _ | refine blk_drew ?_ | refine blk_alloc ?_ _)); refine blk_put (cs := #[.int .i64 0, .int .i64 0, .int .i64 0, .int .i64 0, .int .i64 0]) ?_ 0 _ rfl; (with_reducible repeat (first | refine blk_drewN ?_ _ | refine blk_drew ?_ | refine blk_alloc ?_ _)); exact BK117.out) hb); have n2_ := Aside0.mk (blk_below (g := gb118) (o := .cells #[.int .i64 0, .int .i64 0, .int .i64 0, .int .i64 0, .int .i64 0] 24 (0, 0)) (by (with_reducible repeat (first | refine blk_drewN ?_ _ | refine blk_drew ?_ | refine blk_alloc ?_ _)); refine blk_put (cs := #[.int .i64 0, .int .i64 0, .int .i64 0, .int .i64 0, .int .i64 0]) ?_ 4 _ rfl; (with_reducible repeat (first | refine blk_drewN ?_ _ | refine blk_drew ?_ | refine blk_alloc ?_ _)); refine blk_put (cs := #[.int .i64 0, .int .i64 0, .int .i64 0, .int .i64 0, .int .i64 0]) ?_ 3 _ rfl; (with_reducible repeat (first | refine blk_drewN ?_ _ | refine blk_drew ?_ | refine blk_alloc ?_ _)); refine blk_put (cs := #[.int .i64 0, .int .i64 0, .int .i64 0, .int .i64 0, .int .i64 0]) ?_ 2 _ rfl; (with_reducible repeat (first | refine blk_drewN ?_ _ | refine blk_drew ?_ | refine blk_alloc ?_ _)); refine blk_put (cs := #[.int .i64 0, .int .i64 0, .int .i64 0, .int .i64 0, .int .i64 0]) ?_ 1 _ rfl; (with_reducible repeat (first | refine blk_drewN ?_ _ | refine blk_drew ?_ | refine blk_alloc ?_ _)); refine blk_put (cs := #[.int .i64 0, .int .i64 0, .int .i64 0, .int .i64 0, .int .i64 0]) ?_ 0 _ rfl; (with_reducible repeat (first | refine blk_drewN ?_ _ | refine blk_drew ?_ | refine blk_alloc ?_ _)); refine blk_far ?_ NB118_117.out _; (with_reducible repeat (first | refine blk_drewN ?_ _ | refine blk_drew ?_ | refine blk_alloc ?_ _)); refine blk_far ?_ NB118_117.out _; (with_reducible repeat (first | refine blk_drewN ?_ _ | refine blk_drew ?_ | refine blk_alloc ?_ _)); refine blk_far ?_ NB118_117.out _; (with_reducible repeat (first | refine blk_drewN ?_ _ | refine blk_drew ?_ | refine blk_alloc ?_ _)); refine blk_far ?_ NB118_117.out _; (with_reducible repeat (first | refine blk_drewN ?_ _ | refine blk_drew ?_ | refine blk_alloc ?_ _)); refine blk_far ?_ NB118_117.out _; (with_reducible repeat (first | refine blk_drewN ?_ _ | refine blk_drew ?_ | refine blk_alloc ?_ _)); exact BK118.out) hb); have n3_ := Aside0.mk (below_step zb3_3 hb); clear BK117; clear BK118; clear HB; have HO121 := n0_; have BK117 := n1_; have BK118 := n2_; have HB := n3_; clear n0_ n1_ n2_ n3_; clear hb ho9) | ((with_reducible refine gate_dst (N := 19) rfl ?_); refine Kd.R_lit k32 _ 32 ?hg (N := 19) ?hd (xs := ([] : List (S32))) (inner := []) (ok := fun _ => True) (okp := fun _ => True) ?hr ?hp (fun _ hk => hk) trivial (Below.refl _ _) (Nat.le_refl _) (by simp) ?_; (case hd => rfl); (case hg => rfl); (case hr => first | (go_simp; done) | (go_simp; rfl)); (case hp => exact (Reps.none _ _)); intro v123 w10 ho11 hb hg_ hnew_; clear hg_ hnew_; (first | rw [← Ny122.out] at ho11 | (simp only [Int.reduceToNat] at ho11; rw [← Ny122.out] at ho11)); have n0_ := Aside0.mk (Kd.R_elder' (by (with_reducible repeat (first | apply Kd.R_alloc | apply Kd.R_drewN | apply Kd.R_drew)); exact HO121.out) (Kd.R_base ho11) hb); have n1_ := Aside0.mk (Kd.R_lower (Kd.R_new' ho11 (Kd.R_lt (by (with_reducible repeat (first | apply Kd.R_alloc | apply Kd.R_drewN | apply Kd.R_drew)); exact HO121.out))) (below_size zb3_3)); have n2_ := Aside0.mk (blk_below (g := gb117) (o := .cells #[.int .i64 0, .int .i64 0, .int .i64 0, .int .i64 0, .int .i64 0] 24 (0, 0)) zb1_3 hb); have n3_ := Aside0.mk (blk_below (g := gb118) (o := .cells #[.int .i64 0, .int .i64 0, .int .i64 0, .int .i64 0, .int .i64 0] 24 (0, 0)) zb4_3 hb); have n4_ := Aside0.mk (below_step zb3_3 hb); clear HO121; clear BK117; clear BK118; clear HB; have HO121 := n0_; have HO124 := n1_; have BK117 := n2_; have BK118 := n3_; have HB := n4_; clear n0_ n1_ n2_ n3_ n4_; clear hb ho11))
  go_loopg [5, 6, 7] k (fun kq v5 v6 v7 w' => ∃ (x5_1 : List (S32)) (x6_1 : List (S32)) (x7_1 : Int) (x118000_1 : Int) (x118001_1 : Int) (x118002_1 : Int) (x118003_1 : Int) (x118004_1 : Int) (x119000_1 : Int) (x119001_1 : Int) (x119002_1 : Int) (x119003_1 : Int) (x119004_1 : Int), v7 = .int .i64 x7_1 ∧ Aside0 (laws_FnTwo.l0 kq l0 x5_1 x6_1 x7_1 x118000_1 x118001_1 x118002_1 x118003_1 x118004_1 x119000_1 x119001_1 x119002_1 x119003_1 x119004_1 = some r) ∧ Aside0 (kq ≤ k) ∧ Aside0 (Kd.Q k32 32 w' w.heap.size (fun k_ => some k_ ≠ (v6 : Value).ownBlock) v5 x5_1) ∧ Aside0 (Kd.Q k32 32 w' w.heap.size (fun k_ => some k_ ≠ (v5 : Value).ownBlock) v6 x6_1) ∧ Aside0 (w'.heap[gb117]? = some (.cells #[.int .i64 x118000_1, .int .i64 x118001_1, .int .i64 x118002_1, .int .i64 x118003_1, .int .i64 x118004_1] 24 (0, 0))) ∧ Aside0 (w'.heap[gb118]? = some (.cells #[.int .i64 x119000_1, .int .i64 x119001_1, .int .i64 x119002_1, .int .i64 x119003_1, .int .i64 x119004_1] 24 (0, 0))) ∧ Aside0 (Below w.heap.size w w'))
  case atStart => exact ⟨(y119), (y122), (0), (0), (0), (0), (0), (0), (0), (0), (0), (0), (0), zb5_3, H', ⟨Nat.le_refl _⟩, ⟨Kd.Q_of_R (by (with_reducible repeat (first | apply Kd.R_alloc | apply Kd.R_drewN | apply Kd.R_drew)); exact Kd.R_mono HO121.out (fun _ hk => hk.2))⟩, ⟨Kd.Q_of_R (by (with_reducible repeat (first | apply Kd.R_alloc | apply Kd.R_drewN | apply Kd.R_drew)); exact Kd.R_mono HO124.out (fun _ hk => hk.2))⟩, ⟨by (with_reducible repeat (first | refine blk_drewN ?_ _ | refine blk_drew ?_ | refine blk_alloc ?_ _)); exact BK117.out⟩, ⟨by (with_reducible repeat (first | refine blk_drewN ?_ _ | refine blk_drew ?_ | refine blk_alloc ?_ _)); exact BK118.out⟩, ⟨by repeat (first | (with_reducible first | exact HB.out | apply below_alloc | apply pw_below_drewN | apply below_drew1 | refine below_set ?_ GE117.out | refine below_set ?_ GE118.out) | exact HB.out)⟩⟩
  case round =>
   clear H'
   try clear c2
   try clear c2b0
   try clear c2b1
   try clear p2
   try clear c3
   try clear c5
   try clear hcz6_0
   try clear hcz6_1
   try clear hcz6_2
   try clear hcz6_3
   try clear hcz6_4
   try clear hcz7_0
   try clear hcz7_1
   try clear hcz7_2
   try clear hcz7_3
   try clear hcz7_4
   try clear hfz6_0
   try clear hfz6_1
   try clear hfz6_2
   try clear hfz6_3
   try clear hfz6_4
   try clear hfz7_0
   try clear hfz7_1
   try clear hfz7_2
   try clear hfz7_3
   try clear hfz7_4
   obtain ⟨x5_1, x6_1, x7_1, x118000_1, x118001_1, x118002_1, x118003_1, x118004_1, x119000_1, x119001_1, x119002_1, x119003_1, x119004_1, rfl, HA, HK1, HO_5, HO_6, BK117, BK118, HB⟩ := hrel
   cases gk with
   | zero => exact absurd HA.out (by simp [laws_FnTwo.l0])
   | succ k1 =>
    have H := HA.out
    clear HA
    simp only [laws_FnTwo.l0] at H
    by_cases c12 : x7_1 < 60
    ·
     rw [if_pos c12] at H
     have c12b0 : decide (x7_1 < 60) = true := decide_eq_true c12
     clear c12
     replace H := Option.bind_eq_some_iff.mp H
     obtain ⟨t125, A130, H⟩ := H
     replace H : ((laws_lwAt.f l0 (wrap64 ((wrap64 (2 * x7_1)) + 1)) 4).bind fun t127 => (if t127 = 0 then ((impl_HalfSay.f x118000_1 x118001_1 x118002_1 x118003_1 x118004_1 (wrap64 (1 + t125))).bind fun bt128 => (if bt128.2.2.2.2.2.2 = 0 then (if x5_1.length + bt128.2.2.2.2.2.1.length < 8796093022208 then (laws_FnTwo.l0 k1 l0 (x5_1 ++ bt128.2.2.2.2.2.1) x6_1 (wrap64 (x7_1 + 1)) bt128.1 bt128.2.1 bt128.2.2.1 bt128.2.2.2.1 bt128.2.2.2.2.1 x119000_1 x119001_1 x119002_1 x119003_1 x119004_1) else (none)) else (laws_FnTwo.l0 k1 l0 x5_1 x6_1 (wrap64 (x7_1 + 1)) x118000_1 x118001_1 x118002_1 x118003_1 x118004_1 x119000_1 x119001_1 x119002_1 x119003_1 x119004_1))) else (if t127 = 1 then ((impl_HalfSay.f x119000_1 x119001_1 x119002_1 x119003_1 x119004_1 (wrap64 (1 + t125))).bind fun bt140 => (if bt140.2.2.2.2.2.2 = 0 then (if x6_1.length + bt140.2.2.2.2.2.1.length < 8796093022208 then (laws_FnTwo.l0 k1 l0 x5_1 (x6_1 ++ bt140.2.2.2.2.2.1) (wrap64 (x7_1 + 1)) x118000_1 x118001_1 x118002_1 x118003_1 x118004_1 bt140.1 bt140.2.1 bt140.2.2.1 bt140.2.2.2.1 bt140.2.2.2.2.1) else (none)) else (laws_FnTwo.l0 k1 l0 x5_1 x6_1 (wrap64 (x7_1 + 1)) x118000_1 x118001_1 x118002_1 x118003_1 x118004_1 x119000_1 x119001_1 x119002_1 x119003_1 x119004_1))) else (if t127 = 2 then (if (x5_1.length : Int) > 0 then (if 0 < (x5_1.length : Int) then ((impl_HalfHear.f x119000_1 x119001_1 x119002_1 x119003_1 x119004_1 ((rd_T32 x5_1 0).f0) ((rd_T32 x5_1 0).f1)).bind fun bt153 => (if 1 ≤ (x5_1.length : Int) then (laws_FnTwo.l0 k1 l0 (x5_1.drop (1 : Int).toNat) x6_1 (wrap64 (x7_1 + 1)) x118000_1 x118001_1 x118002_1 x118003_1 x118004_1 bt153.1 bt153.2.1 bt153.2.2.1 bt153.2.2.2.1 bt153.2.2.2.2.1) else (none))) else (none)) else (laws_FnTwo.l0 k1 l0 x5_1 x6_1 (wrap64 (x7_1 + 1)) x118000_1 x118001_1 x118002_1 x118003_1 x118004_1 x119000_1 x119001_1 x119002_1 x119003_1 x119004_1)) else (if (x6_1.length : Int) > 0 then (if 0 < (x6_1.length : Int) then ((impl_HalfHear.f x118000_1 x118001_1 x118002_1 x118003_1 x118004_1 ((rd_T32 x6_1 0).f0) ((rd_T32 x6_1 0).f1)).bind fun bt166 => (if 1 ≤ (x6_1.length : Int) then (laws_FnTwo.l0 k1 l0 x5_1 (x6_1.drop (1 : Int).toNat) (wrap64 (x7_1 + 1)) bt166.1 bt166.2.1 bt166.2.2.1 bt166.2.2.2.1 bt166.2.2.2.2.1 x119000_1 x119001_1 x119002_1 x119003_1 x119004_1) else (none))) else (none)) else (laws_FnTwo.l0 k1 l0 x5_1 x6_1 (wrap64 (x7_1 + 1)) x118000_1 x118001_1 x118002_1 x118003_1 x118004_1 x119000_1 x119001_1 x119002_1 x119003_1 x119004_1)))))) = some r := H
     have A13 := Aside0.mk A130
     clear A130
     replace H := Option.bind_eq_some_iff.mp H
     obtain ⟨t127, A140, H⟩ := H
     replace H : (if t127 = 0 then ((impl_HalfSay.f x118000_1 x118001_1 x118002_1 x118003_1 x118004_1 (wrap64 (1 + t125))).bind fun bt128 => (if bt128.2.2.2.2.2.2 = 0 then (if x5_1.length + bt128.2.2.2.2.2.1.length < 8796093022208 then (laws_FnTwo.l0 k1 l0 (x5_1 ++ bt128.2.2.2.2.2.1) x6_1 (wrap64 (x7_1 + 1)) bt128.1 bt128.2.1 bt128.2.2.1 bt128.2.2.2.1 bt128.2.2.2.2.1 x119000_1 x119001_1 x119002_1 x119003_1 x119004_1) else (none)) else (laws_FnTwo.l0 k1 l0 x5_1 x6_1 (wrap64 (x7_1 + 1)) x118000_1 x118001_1 x118002_1 x118003_1 x118004_1 x119000_1 x119001_1 x119002_1 x119003_1 x119004_1))) else (if t127 = 1 then ((impl_HalfSay.f x119000_1 x119001_1 x119002_1 x119003_1 x119004_1 (wrap64 (1 + t125))).bind fun bt140 => (if bt140.2.2.2.2.2.2 = 0 then (if x6_1.length + bt140.2.2.2.2.2.1.length < 8796093022208 then (laws_FnTwo.l0 k1 l0 x5_1 (x6_1 ++ bt140.2.2.2.2.2.1) (wrap64 (x7_1 + 1)) x118000_1 x118001_1 x118002_1 x118003_1 x118004_1 bt140.1 bt140.2.1 bt140.2.2.1 bt140.2.2.2.1 bt140.2.2.2.2.1) else (none)) else (laws_FnTwo.l0 k1 l0 x5_1 x6_1 (wrap64 (x7_1 + 1)) x118000_1 x118001_1 x118002_1 x118003_1 x118004_1 x119000_1 x119001_1 x119002_1 x119003_1 x119004_1))) else (if t127 = 2 then (if (x5_1.length : Int) > 0 then (if 0 < (x5_1.length : Int) then ((impl_HalfHear.f x119000_1 x119001_1 x119002_1 x119003_1 x119004_1 ((rd_T32 x5_1 0).f0) ((rd_T32 x5_1 0).f1)).bind fun bt153 => (if 1 ≤ (x5_1.length : Int) then (laws_FnTwo.l0 k1 l0 (x5_1.drop (1 : Int).toNat) x6_1 (wrap64 (x7_1 + 1)) x118000_1 x118001_1 x118002_1 x118003_1 x118004_1 bt153.1 bt153.2.1 bt153.2.2.1 bt153.2.2.2.1 bt153.2.2.2.2.1) else (none))) else (none)) else (laws_FnTwo.l0 k1 l0 x5_1 x6_1 (wrap64 (x7_1 + 1)) x118000_1 x118001_1 x118002_1 x118003_1 x118004_1 x119000_1 x119001_1 x119002_1 x119003_1 x119004_1)) else (if (x6_1.length : Int) > 0 then (if 0 < (x6_1.length : Int) then ((impl_HalfHear.f x118000_1 x118001_1 x118002_1 x118003_1 x118004_1 ((rd_T32 x6_1 0).f0) ((rd_T32 x6_1 0).f1)).bind fun bt166 => (if 1 ≤ (x6_1.length : Int) then (laws_FnTwo.l0 k1 l0 x5_1 (x6_1.drop (1 : Int).toNat) (wrap64 (x7_1 + 1)) bt166.1 bt166.2.1 bt166.2.2.1 bt166.2.2.2.1 bt166.2.2.2.2.1 x119000_1 x119001_1 x119002_1 x119003_1 x119004_1) else (none))) else (none)) else (laws_FnTwo.l0 k1 l0 x5_1 x6_1 (wrap64 (x7_1 + 1)) x118000_1 x118001_1 x118002_1 x118003_1 x118004_1 x119000_1 x119001_1 x119002_1 x119003_1 x119004_1))))) = some r := H
     have A14 := Aside0.mk A140
     clear A140
     by_cases c15 : t127 = 0
     ·
      rw [if_pos c15] at H
      have c15b0 : (t127 == 0) = true := beq_iff_eq.mpr c15
      have c15b1 : (t127 != 0) = false := bne_eq_false_iff_eq.mpr c15
      clear c15
      replace H := Option.bind_eq_some_iff.mp H
      obtain ⟨⟨t128, t129, t130, t131, t132, t133, t136⟩, A160, H⟩ := H
      replace H : (if t136 = 0 then (if x5_1.length + t133.length < 8796093022208 then (laws_FnTwo.l0 k1 l0 (x5_1 ++ t133) x6_1 (wrap64 (x7_1 + 1)) t128 t129 t130 t131 t132 x119000_1 x119001_1 x119002_1 x119003_1 x119004_1) else (none)) else (laws_FnTwo.l0 k1 l0 x5_1 x6_1 (wrap64 (x7_1 + 1)) x118000_1 x118001_1 x118002_1 x118003_1 x118004_1 x119000_1 x119001_1 x119002_1 x119003_1 x119004_1)) = some r := H
      have A16 := Aside0.mk A160
      clear A160
      by_cases c17 : t136 = 0
      ·
       rw [if_pos c17] at H
       have c17b0 : (t136 == 0) = true := beq_iff_eq.mpr c17
       have c17b1 : (t136 != 0) = false := bne_eq_false_iff_eq.mpr c17
       clear c17
       by_cases c18 : x5_1.length + t133.length < 8796093022208
       ·
        rw [if_pos c18] at H
        have LMc18 := Aside0.mk c18
        clear c18
        obtain ⟨y137, hy137⟩ : ∃ y_ : List (S32), y_ = (x5_1 ++ t133) := ⟨_, rfl⟩
        replace H : (laws_FnTwo.l0 k1 l0 y137 x6_1 (wrap64 (x7_1 + 1)) t128 t129 t130 t131 t132 x119000_1 x119001_1 x119002_1 x119003_1 x119004_1) = some r := by first | (rw [hy137]; with_reducible exact H) | (have H2_ := (Option.bind_some _ _).symm.trans H; rw [hy137]; with_reducible exact H2_) | (have H2_ := (Option.bind_some _ _).symm.trans H; with_reducible exact H2_) | with_reducible exact H | (rw [hy137]; exact H) | exact H
        have Ny137 := Aside0.mk hy137
        clear hy137
        have H' := Aside0.mk H
        clear H
        go_wp2_with (first | ((with_reducible refine gate_callee (f := 4) rfl ?_); refine goesL_ (some 27) rfl rfl Try.func4 (by kernel_rfl) rfl #[.slice A0 l0.length c0, .int .i64 (wrap64 (2 * x7_1)), .int .i64 4] rfl zb6_3 ?_; (with_reducible refine (laws_lwAt.calls _ _ l0 (wrap64 (2 * x7_1)) 4 t125 _ ?side1 ?side2 A13.out).mono ?_); (case side1 => repeat (first | exact (Kd.C_below HR0.out HB.out) | (with_reducible refine Kd.C_alloc ?_ _) | (with_reducible refine Kd.C_drewN ?_ _) | (with_reducible refine Kd.C_drew ?_))); (case side2 => exact HC0.out); rintro e w' ⟨rfl, ⟨nd, rfl⟩⟩; refine ⟨_, rfl, ?_⟩; (try (rw [drewN_self wr]; generalize hq_ : World.drewN wr _ = wr; have n0_ : Aside0 (Kd.Q k32 32 wr w.heap.size (fun k_ => some k_ ≠ (u6 : Value).ownBlock) u5 x5_1) := ⟨by rw [← hq_]; exact zb7_3⟩; have n1_ : Aside0 (Kd.Q k32 32 wr w.heap.size (fun k_ => some k_ ≠ (u5 : Value).ownBlock) u6 x6_1) := ⟨by rw [← hq_]; exact zb8_3⟩; have n2_ : Aside0 (wr.heap[gb117]? = some (.cells #[.int .i64 x118000_1, .int .i64 x118001_1, .int .i64 x118002_1, .int .i64 x118003_1, .int .i64 x118004_1] 24 (0, 0))) := ⟨by rw [← hq_]; exact zb1_3⟩; have n3_ : Aside0 (wr.heap[gb118]? = some (.cells #[.int .i64 x119000_1, .int .i64 x119001_1, .int .i64 x119002_1, .int .i64 x119003_1, .int .i64 x119004_1] 24 (0, 0))) := ⟨by rw [← hq_]; exact zb4_3⟩; have n4_ : Aside0 (Below w.heap.size w wr) := ⟨by rw [← hq_]; exact zb3_3⟩; clear HO_5 HO_6 BK117 BK118 HB hq_; have HO_5 := n0_; have HO_6 := n1_; have BK117 := n2_; have BK118 := n3_; have HB := n4_; clear n0_ n1_ n2_ n3_ n4_))) | ((with_reducible refine gate_dst (N := 9) rfl ?_); refine box_event ?hg (N := 9) ?hd (cs := #[.int .i64 0, .int .i64 0, .int .i64 0, .int .i64 0, .int .i64 0, .slice none 0 0, .int .i64 0]) (t := 28) ?hr ?_; (case hd => rfl); (case hg => rfl); (case hr => first | (go_simp; done) | (go_simp; rfl)); intro gb126 hg w19 hbox hb; have n0_ := Aside0.mk (Kd.Q_below zb7_3 hb); have n1_ := Aside0.mk (Kd.Q_below zb8_3 hb); have n2_ := Aside0.mk (blk_below (g := gb117) (o := .cells #[.int .i64 x118000_1, .int .i64 x118001_1, .int .i64 x118002_1, .int .i64 x118003_1, .int .i64 x118004_1] 24 (0, 0)) zb1_3 hb); have n3_ := Aside0.mk (blk_below (g := gb118) (o := .cells #[.int .i64 x119000_1, .int .i64 x119001_1, .int .i64 x119002_1, .int .i64 x119003_1, .int .i64 x119004_1] 24 (0, 0)) zb4_3 hb); have n4_ := Aside0.mk (below_step zb3_3 hb); have n5_ := Aside0.mk (hbox); have n6_ := Aside0.mk ((zb9_3 : w.heap.size ≤ gb126)); have n7_ := Aside0.mk ((zb9_3 : w.heap.size ≤ gb126)); have n8_ := Aside0.mk ((zb10_3 : gb117 ≠ gb126)); have n9_ := Aside0.mk ((zb11_3 : gb126 ≠ gb117)); have n10_ := Aside0.mk ((zb12_3 : gb118 ≠ gb126)); have n11_ := Aside0.mk ((zb13_3 : gb126 ≠ gb118)); clear HO_5; clear HO_6; clear BK117; clear BK118; clear HB; have HO_5 := n0_; have HO_6 := n1_; have BK117 := n2_; have BK118 := n3_; have HB := n4_; have BK126 := n5_; have GW126 := n6_; have GE126 := n7_; have NB117_126 := n8_; have NB126_117 := n9_; have NB118_126 := n10_; have NB126_118 := n11_; clear n0_ n1_ n2_ n3_ n4_ n5_ n6_ n7_ n8_ n9_ n10_ n11_; clear hb hbox hg; have hnb20 := NB126_117.out; have hnc20 := NB117_126.out; have hnb21 := NB126_118.out; have hnc21 := NB118_126.out; have hcz22_0 := bcq_3 BK126.out 0; have hcz22_1 := bcq_3 BK126.out 1; have hcz22_2 := bcq_3 BK126.out 2; have hcz22_3 := bcq_3 BK126.out 3; have hcz22_4 := bcq_3 BK126.out 4; have hcz22_5 := bcq_3 BK126.out 5; have hcz22_6 := bcq_3 BK126.out 6; have hfz22_0 := blk_frozen BK126.out 0; have hfz22_1 := blk_frozen BK126.out 1; have hfz22_2 := blk_frozen BK126.out 2; have hfz22_3 := blk_frozen BK126.out 3; have hfz22_4 := blk_frozen BK126.out 4; have hfz22_5 := blk_frozen BK126.out 5; have hfz22_6 := blk_frozen BK126.out 6) | ((with_reducible refine gate_callee (f := 4) rfl ?_); refine goesL_ (some 34) rfl rfl Try.func4 (by kernel_rfl) rfl #[.slice A0 l0.length c0, .int .i64 (wrap64 ((wrap64 (2 * x7_1)) + 1)), .int .i64 4] rfl zb6_3 ?_; (with_reducible refine (laws_lwAt.calls _ _ l0 (wrap64 ((wrap64 (2 * x7_1)) + 1)) 4 t127 _ ?side1 ?side2 A14.out).mono ?_); (case side1 => exact Kd.C_below HR0.out zb14_3); (case side2 => exact HC0.out); rintro e w' ⟨rfl, ⟨nd, rfl⟩⟩; refine ⟨_, rfl, ?_⟩; have hnb23 := NB117_118.out; have hnc23 := NB118_117.out; have hcz24_0 := bcq_3 BK117.out 0; have hcz24_1 := bcq_3 BK117.out 1; have hcz24_2 := bcq_3 BK117.out 2; have hcz24_3 := bcq_3 BK117.out 3; have hcz24_4 := bcq_3 BK117.out 4; have hfz24_0 := blk_frozen BK117.out 0; have hfz24_1 := blk_frozen BK117.out 1; have hfz24_2 := blk_frozen BK117.out 2; have hfz24_3 := blk_frozen BK117.out 3; have hfz24_4 := blk_frozen BK117.out 4) | ((with_reducible refine gate_callee (f := 5) rfl ?_); refine goesL_ (some 50) rfl rfl Try.func5 (by kernel_rfl) rfl #[.agg #[.int .i64 x118000_1, .int .i64 x118001_1, .int .i64 x118002_1, .int .i64 x118003_1, .int .i64 x118004_1], .int .i64 (wrap64 (1 + t125))] rfl zb6_3 ?_; (with_reducible refine (impl_HalfSay.calls x118000_1 x118001_1 x118002_1 x118003_1 x118004_1 (wrap64 (1 + t125)) t128 t129 t130 t131 t132 t133 t136 _ A16.out).mono ?_); rintro e w25 ⟨v134, rfl, ho0, hb⟩; refine ⟨_, rfl, ?_⟩; have n0_ := Aside0.mk (Kd.Q_elder' zb15_3 (Kd.R_base ho0) hb); have n1_ := Aside0.mk (Kd.Q_elder' zb16_3 (Kd.R_base ho0) hb); have n2_ := Aside0.mk (Kd.R_lower (Kd.R_new' (Kd.R_new' ho0 (Kd.Q_lt zb15_3)) (Kd.Q_lt zb16_3)) (below_size zb14_3)); have n3_ := Aside0.mk (blk_below (g := gb117) (o := .cells #[.int .i64 x118000_1, .int .i64 x118001_1, .int .i64 x118002_1, .int .i64 x118003_1, .int .i64 x118004_1] 24 (0, 0)) zb17_3 hb); have n4_ := Aside0.mk (blk_below (g := gb118) (o := .cells #[.int .i64 x119000_1, .int .i64 x119001_1, .int .i64 x119002_1, .int .i64 x119003_1, .int .i64 x119004_1] 24 (0, 0)) zb18_3 hb); have n5_ := Aside0.mk (blk_below (g := gb126) (o := .cells #[.int .i64 0, .int .i64 0, .int .i64 0, .int .i64 0, .int .i64 0, .slice none 0 0, .int .i64 10] 28 (0, 0)) zb19_3 hb); have n6_ := Aside0.mk (below_step zb14_3 hb); clear HO_5; clear HO_6; clear BK117; clear BK118; clear BK126; clear HB; have HO_5 := n0_; have HO_6 := n1_; have HO135 := n2_; have BK117 := n3_; have BK118 := n4_; have BK126 := n5_; have HB := n6_; clear n0_ n1_ n2_ n3_ n4_ n5_ n6_; (try clear hb); (try clear hb2); (try clear hk); (try clear hi); (try clear ho0); have hcz26_0 := bcq_3 BK126.out 0; have hcz26_1 := bcq_3 BK126.out 1; have hcz26_2 := bcq_3 BK126.out 2; have hcz26_3 := bcq_3 BK126.out 3; have hcz26_4 := bcq_3 BK126.out 4; have hcz26_5 := bcq_3 BK126.out 5; have hcz26_6 := bcq_3 BK126.out 6; have hfz26_0 := blk_frozen BK126.out 0; have hfz26_1 := blk_frozen BK126.out 1; have hfz26_2 := blk_frozen BK126.out 2; have hfz26_3 := blk_frozen BK126.out 3; have hfz26_4 := blk_frozen BK126.out 4; have hfz26_5 := blk_frozen BK126.out 5; have hfz26_6 := blk_frozen BK126.out 6; obtain ⟨Ao27, co27, eo27⟩ := Kd.R_slice HO135.out; subst eo27; have hcz28_0 := bcq_3 BK117.out 0; have hcz28_1 := bcq_3 BK117.out 1; have hcz28_2 := bcq_3 BK117.out 2; have hcz28_3 := bcq_3 BK117.out 3; have hcz28_4 := bcq_3 BK117.out 4; have hfz28_0 := blk_frozen BK117.out 0; have hfz28_1 := blk_frozen BK117.out 1; have hfz28_2 := blk_frozen BK117.out 2; have hfz28_3 := blk_frozen BK117.out 3; have hfz28_4 := blk_frozen BK117.out 4) | ((with_reducible refine gate_builtin (b := .append) (xs := #[.tmp 56, .tmp 58]) rfl ?_); at_builtin; refine Kd.Q_append_rows k32 (w0 := w) w.heap.size rfl (.tmp 56) (.tmp 58) 25 32 (.agg #[(.int .i64 0), (.int .i64 0)]) 16 rfl Try.underlying25 info32 rfl (by decide) (by omega) u5 x5_1 t133 _ _ _ (fun k_ => some k_ ≠ (u6 : Value).ownBlock ∧ some k_ ≠ (.slice Ao27 t133.length co27 : Value).ownBlock) (fun _ => False) rfl rfl ?aO ?aR (fun _ _ h => h) (fun _ h => h.elim) ?aF ?aB ?aS ?aL ?_; (case aR => refine (Kd.R_reads' (e := 32) (base := w.heap.size) (ok := fun k_ => ((True ∧ some k_ ≠ (u5 : Value).ownBlock) ∧ some k_ ≠ (u6 : Value).ownBlock)) (n := t133.length) (c := co27) ?_).2.2; exact (by (with_reducible repeat (first | apply Kd.R_alloc | apply Kd.R_drewN | apply Kd.R_drew)); exact (Kd.R_mono (Kd.R_mono (Kd.R_far (p := ⟨gb117, 4, none⟩) (Kd.R_far (p := ⟨gb117, 3, none⟩) (Kd.R_far (p := ⟨gb117, 2, none⟩) (Kd.R_far (p := ⟨gb117, 1, none⟩) (Kd.R_far (p := ⟨gb117, 0, none⟩) (Kd.R_far (p := ⟨gb126, 6, none⟩) (Kd.R_far (p := ⟨gb126, 5, none⟩) (Kd.R_far (p := ⟨gb126, 4, none⟩) (Kd.R_far (p := ⟨gb126, 3, none⟩) (Kd.R_far (p := ⟨gb126, 2, none⟩) (Kd.R_far (p := ⟨gb126, 1, none⟩) (Kd.R_far (p := ⟨gb126, 0, none⟩) (Kd.R_types (Kd.R_types HO135.out BK126.out (by decide)) BK117.out (by decide)) (fun _ hk => hk.1.2) (.int .i64 t128)) (fun _ hk => hk.1.2) (.int .i64 t129)) (fun _ hk => hk.1.2) (.int .i64 t130)) (fun _ hk => hk.1.2) (.int .i64 t131)) (fun _ hk => hk.1.2) (.int .i64 t132)) (fun _ hk => hk.1.2) (.slice Ao27 t133.length co27)) (fun _ hk => hk.1.2) (.int .i64 t136)) (fun _ hk => hk.2) (.int .i64 t128)) (fun _ hk => hk.2) (.int .i64 t129)) (fun _ hk => hk.2) (.int .i64 t130)) (fun _ hk => hk.2) (.int .i64 t131)) (fun _ hk => hk.2) (.int .i64 t132)) (fun _ h_ => h_.1)) (fun _ h_ => h_.1)))); (case aB => exact zb14_3); (case aF => exact (fun k_ hk => ⟨Kd.fresh' (Kd.Q_lt (by (with_reducible repeat (first | apply Kd.Q_alloc | apply Kd.Q_drewN | apply Kd.Q_drew)); exact (Kd.Q_mono (Kd.Q_mono (Kd.Q_far (p := ⟨gb117, 4, none⟩) (Kd.Q_far (p := ⟨gb117, 3, none⟩) (Kd.Q_far (p := ⟨gb117, 2, none⟩) (Kd.Q_far (p := ⟨gb117, 1, none⟩) (Kd.Q_far (p := ⟨gb117, 0, none⟩) (Kd.Q_far (p := ⟨gb126, 6, none⟩) (Kd.Q_far (p := ⟨gb126, 5, none⟩) (Kd.Q_far (p := ⟨gb126, 4, none⟩) (Kd.Q_far (p := ⟨gb126, 3, none⟩) (Kd.Q_far (p := ⟨gb126, 2, none⟩) (Kd.Q_far (p := ⟨gb126, 1, none⟩) (Kd.Q_far (p := ⟨gb126, 0, none⟩) (Kd.Q_types (Kd.Q_types HO_6.out BK126.out (by decide)) BK117.out (by decide)) (fun _ hk => hk.1.2) (.int .i64 t128)) (fun _ hk => hk.1.2) (.int .i64 t129)) (fun _ hk => hk.1.2) (.int .i64 t130)) (fun _ hk => hk.1.2) (.int .i64 t131)) (fun _ hk => hk.1.2) (.int .i64 t132)) (fun _ hk => hk.1.2) (.slice Ao27 t133.length co27)) (fun _ hk => hk.1.2) (.int .i64 t136)) (fun _ hk => hk.2) (.int .i64 t128)) (fun _ hk => hk.2) (.int .i64 t129)) (fun _ hk => hk.2) (.int .i64 t130)) (fun _ hk => hk.2) (.int .i64 t131)) (fun _ hk => hk.2) (.int .i64 t132)) (fun _ h_ => h_.1)) (fun _ h_ => h_.1)))) k_ hk, Kd.fresh' (Kd.R_lt (by (with_reducible repeat (first | apply Kd.R_alloc | apply Kd.R_drewN | apply Kd.R_drew)); exact (Kd.R_mono (Kd.R_mono (Kd.R_far (p := ⟨gb117, 4, none⟩) (Kd.R_far (p := ⟨gb117, 3, none⟩) (Kd.R_far (p := ⟨gb117, 2, none⟩) (Kd.R_far (p := ⟨gb117, 1, none⟩) (Kd.R_far (p := ⟨gb117, 0, none⟩) (Kd.R_far (p := ⟨gb126, 6, none⟩) (Kd.R_far (p := ⟨gb126, 5, none⟩) (Kd.R_far (p := ⟨gb126, 4, none⟩) (Kd.R_far (p := ⟨gb126, 3, none⟩) (Kd.R_far (p := ⟨gb126, 2, none⟩) (Kd.R_far (p := ⟨gb126, 1, none⟩) (Kd.R_far (p := ⟨gb126, 0, none⟩) (Kd.R_types (Kd.R_types HO135.out BK126.out (by decide)) BK117.out (by decide)) (fun _ hk => hk.1.2) (.int .i64 t128)) (fun _ hk => hk.1.2) (.int .i64 t129)) (fun _ hk => hk.1.2) (.int .i64 t130)) (fun _ hk => hk.1.2) (.int .i64 t131)) (fun _ hk => hk.1.2) (.int .i64 t132)) (fun _ hk => hk.1.2) (.slice Ao27 t133.length co27)) (fun _ hk => hk.1.2) (.int .i64 t136)) (fun _ hk => hk.2) (.int .i64 t128)) (fun _ hk => hk.2) (.int .i64 t129)) (fun _ hk => hk.2) (.int .i64 t130)) (fun _ hk => hk.2) (.int .i64 t131)) (fun _ hk => hk.2) (.int .i64 t132)) (fun _ h_ => h_.1)) (fun _ h_ => h_.1)))) k_ hk⟩)); (case aO => exact (by (with_reducible repeat (first | apply Kd.Q_alloc | apply Kd.Q_drewN | apply Kd.Q_drew)); exact Kd.Q_mono (Kd.Q_far (p := ⟨gb117, 4, none⟩) (Kd.Q_far (p := ⟨gb117, 3, none⟩) (Kd.Q_far (p := ⟨gb117, 2, none⟩) (Kd.Q_far (p := ⟨gb117, 1, none⟩) (Kd.Q_far (p := ⟨gb117, 0, none⟩) (Kd.Q_far (p := ⟨gb126, 6, none⟩) (Kd.Q_far (p := ⟨gb126, 5, none⟩) (Kd.Q_far (p := ⟨gb126, 4, none⟩) (Kd.Q_far (p := ⟨gb126, 3, none⟩) (Kd.Q_far (p := ⟨gb126, 2, none⟩) (Kd.Q_far (p := ⟨gb126, 1, none⟩) (Kd.Q_far (p := ⟨gb126, 0, none⟩) (Kd.Q_types (Kd.Q_types HO_5.out BK126.out (by decide)) BK117.out (by decide)) (fun _ hk => hk.1.2) (.int .i64 t128)) (fun _ hk => hk.1.2) (.int .i64 t129)) (fun _ hk => hk.1.2) (.int .i64 t130)) (fun _ hk => hk.1.2) (.int .i64 t131)) (fun _ hk => hk.1.2) (.int .i64 t132)) (fun _ hk => hk.1.2) (.slice Ao27 t133.length co27)) (fun _ hk => hk.1.2) (.int .i64 t136)) (fun _ hk => hk.2) (.int .i64 t128)) (fun _ hk => hk.2) (.int .i64 t129)) (fun _ hk => hk.2) (.int .i64 t130)) (fun _ hk => hk.2) (.int .i64 t131)) (fun _ hk => hk.2) (.int .i64 t132)) (fun _ hk => ⟨hk.1.1.1, hk.1.1.2⟩))); (case aS => exact (below_size zb14_3)); (case aL => have := LMc18.out; omega); intro v138 w29 ho hb hg hat; rw [← Ny137.out] at ho; have n0_ := Aside0.mk (Kd.Q_after (ok := (fun k_ => some k_ ≠ (.slice Ao27 t133.length co27 : Value).ownBlock)) (by (with_reducible repeat (first | apply Kd.Q_alloc | apply Kd.Q_drewN | apply Kd.Q_drew)); exact Kd.Q_mono (Kd.Q_far (p := ⟨gb117, 4, none⟩) (Kd.Q_far (p := ⟨gb117, 3, none⟩) (Kd.Q_far (p := ⟨gb117, 2, none⟩) (Kd.Q_far (p := ⟨gb117, 1, none⟩) (Kd.Q_far (p := ⟨gb117, 0, none⟩) (Kd.Q_far (p := ⟨gb126, 6, none⟩) (Kd.Q_far (p := ⟨gb126, 5, none⟩) (Kd.Q_far (p := ⟨gb126, 4, none⟩) (Kd.Q_far (p := ⟨gb126, 3, none⟩) (Kd.Q_far (p := ⟨gb126, 2, none⟩) (Kd.Q_far (p := ⟨gb126, 1, none⟩) (Kd.Q_far (p := ⟨gb126, 0, none⟩) (Kd.Q_types (Kd.Q_types HO_6.out BK126.out (by decide)) BK117.out (by decide)) (fun _ hk => hk.1.2) (.int .i64 t128)) (fun _ hk => hk.1.2) (.int .i64 t129)) (fun _ hk => hk.1.2) (.int .i64 t130)) (fun _ hk => hk.1.2) (.int .i64 t131)) (fun _ hk => hk.1.2) (.int .i64 t132)) (fun _ hk => hk.1.2) (.slice Ao27 t133.length co27)) (fun _ hk => hk.1.2) (.int .i64 t136)) (fun _ hk => hk.2) (.int .i64 t128)) (fun _ hk => hk.2) (.int .i64 t129)) (fun _ hk => hk.2) (.int .i64 t130)) (fun _ hk => hk.2) (.int .i64 t131)) (fun _ hk => hk.2) (.int .i64 t132)) (fun _ hk => ⟨hk.1.1.2, hk.1.1.1⟩)) hg hat); have n1_ := Aside0.mk (blk_grown (g := gb117) (o := .cells #[.int .i64 t128, .int .i64 t129, .int .i64 t130, .int .i64 t131, .int .i64 t132] 24 (0, 0)) (by (with_reducible repeat (first | refine blk_drewN ?_ _ | refine blk_drew ?_ | refine blk_alloc ?_ _)); refine blk_put (cs := #[.int .i64 t128, .int .i64 t129, .int .i64 t130, .int .i64 t131, .int .i64 x118004_1]) ?_ 4 _ rfl; (with_reducible repeat (first | refine blk_drewN ?_ _ | refine blk_drew ?_ | refine blk_alloc ?_ _)); refine blk_put (cs := #[.int .i64 t128, .int .i64 t129, .int .i64 t130, .int .i64 x118003_1, .int .i64 x118004_1]) ?_ 3 _ rfl; (with_reducible repeat (first | refine blk_drewN ?_ _ | refine blk_drew ?_ | refine blk_alloc ?_ _)); refine blk_put (cs := #[.int .i64 t128, .int .i64 t129, .int .i64 x118002_1, .int .i64 x118003_1, .int .i64 x118004_1]) ?_ 2 _ rfl; (with_reducible repeat (first | refine blk_drewN ?_ _ | refine blk_drew ?_ | refine blk_alloc ?_ _)); refine blk_put (cs := #[.int .i64 t128, .int .i64 x118001_1, .int .i64 x118002_1, .int .i64 x118003_1, .int .i64 x118004_1]) ?_ 1 _ rfl; (with_reducible repeat (first | refine blk_drewN ?_ _ | refine blk_drew ?_ | refine blk_alloc ?_ _)); refine blk_put (cs := #[.int .i64 x118000_1, .int .i64 x118001_1, .int .i64 x118002_1, .int .i64 x118003_1, .int .i64 x118004_1]) ?_ 0 _ rfl; (with_reducible repeat (first | refine blk_drewN ?_ _ | refine blk_drew ?_ | refine blk_alloc ?_ _)); refine blk_far ?_ NB117_126.out _; (with_reducible repeat (first | refine blk_drewN ?_ _ | refine blk_drew ?_ | refine blk_alloc ?_ _)); refine blk_far ?_ NB117_126.out _; (with_reducible repeat (first | refine blk_drewN ?_ _ | refine blk_drew ?_ | refine blk_alloc ?_ _)); refine blk_far ?_ NB117_126.out _; (with_reducible repeat (first | refine blk_drewN ?_ _ | refine blk_drew ?_ | refine blk_alloc ?_ _)); refine blk_far ?_ NB117_126.out _; (with_reducible repeat (first | refine blk_drewN ?_ _ | refine blk_drew ?_ | refine blk_alloc ?_ _)); refine blk_far ?_ NB117_126.out _; (with_reducible repeat (first | refine blk_drewN ?_ _ | refine blk_drew ?_ | refine blk_alloc ?_ _)); refine blk_far ?_ NB117_126.out _; (with_reducible repeat (first | refine blk_drewN ?_ _ | refine blk_drew ?_ | refine blk_alloc ?_ _)); refine blk_far ?_ NB117_126.out _; (with_reducible repeat (first | refine blk_drewN ?_ _ | refine blk_drew ?_ | refine blk_alloc ?_ _)); exact BK117.out) hg (Kd.Q_ne HO_5.out BK117.out (by decide))); have n2_ := Aside0.mk (blk_grown (g := gb118) (o := .cells #[.int .i64 x119000_1, .int .i64 x119001_1, .int .i64 x119002_1, .int .i64 x119003_1, .int .i64 x119004_1] 24 (0, 0)) (by (with_reducible repeat (first | refine blk_drewN ?_ _ | refine blk_drew ?_ | refine blk_alloc ?_ _)); refine blk_far ?_ NB118_117.out _; (with_reducible repeat (first | refine blk_drewN ?_ _ | refine blk_drew ?_ | refine blk_alloc ?_ _)); refine blk_far ?_ NB118_117.out _; (with_reducible repeat (first | refine blk_drewN ?_ _ | refine blk_drew ?_ | refine blk_alloc ?_ _)); refine blk_far ?_ NB118_117.out _; (with_reducible repeat (first | refine blk_drewN ?_ _ | refine blk_drew ?_ | refine blk_alloc ?_ _)); refine blk_far ?_ NB118_117.out _; (with_reducible repeat (first | refine blk_drewN ?_ _ | refine blk_drew ?_ | refine blk_alloc ?_ _)); refine blk_far ?_ NB118_117.out _; (with_reducible repeat (first | refine blk_drewN ?_ _ | refine blk_drew ?_ | refine blk_alloc ?_ _)); refine blk_far ?_ NB118_126.out _; (with_reducible repeat (first | refine blk_drewN ?_ _ | refine blk_drew ?_ | refine blk_alloc ?_ _)); refine blk_far ?_ NB118_126.out _; (with_reducible repeat (first | refine blk_drewN ?_ _ | refine blk_drew ?_ | refine blk_alloc ?_ _)); refine blk_far ?_ NB118_126.out _; (with_reducible repeat (first | refine blk_drewN ?_ _ | refine blk_drew ?_ | refine blk_alloc ?_ _)); refine blk_far ?_ NB118_126.out _; (with_reducible repeat (first | refine blk_drewN ?_ _ | refine blk_drew ?_ | refine blk_alloc ?_ _)); refine blk_far ?_ NB118_126.out _; (with_reducible repeat (first | refine blk_drewN ?_ _ | refine blk_drew ?_ | refine blk_alloc ?_ _)); refine blk_far ?_ NB118_126.out _; (with_reducible repeat (first | refine blk_drewN ?_ _ | refine blk_drew ?_ | refine blk_alloc ?_ _)); refine blk_far ?_ NB118_126.out _; (with_reducible repeat (first | refine blk_drewN ?_ _ | refine blk_drew ?_ | refine blk_alloc ?_ _)); exact BK118.out) hg (Kd.Q_ne HO_5.out BK118.out (by decide))); have n3_ := Aside0.mk (blk_grown (g := gb126) (o := .cells #[.int .i64 t128, .int .i64 t129, .int .i64 t130, .int .i64 t131, .int .i64 t132, .slice Ao27 t133.length co27, .int .i64 t136] 28 (0, 0)) (by (with_reducible repeat (first | refine blk_drewN ?_ _ | refine blk_drew ?_ | refine blk_alloc ?_ _)); refine blk_far ?_ NB126_117.out _; (with_reducible repeat (first | refine blk_drewN ?_ _ | refine blk_drew ?_ | refine blk_alloc ?_ _)); refine blk_far ?_ NB126_117.out _; (with_reducible repeat (first | refine blk_drewN ?_ _ | refine blk_drew ?_ | refine blk_alloc ?_ _)); refine blk_far ?_ NB126_117.out _; (with_reducible repeat (first | refine blk_drewN ?_ _ | refine blk_drew ?_ | refine blk_alloc ?_ _)); refine blk_far ?_ NB126_117.out _; (with_reducible repeat (first | refine blk_drewN ?_ _ | refine blk_drew ?_ | refine blk_alloc ?_ _)); refine blk_far ?_ NB126_117.out _; (with_reducible repeat (first | refine blk_drewN ?_ _ | refine blk_drew ?_ | refine blk_alloc ?_ _)); refine blk_put (cs := #[.int .i64 t128, .int .i64 t129, .int .i64 t130, .int .i64 t131, .int .i64 t132, .slice Ao27 t133.length co27, .int .i64 10]) ?_ 6 _ rfl; (with_reducible repeat (first | refine blk_drewN ?_ _ | refine blk_drew ?_ | refine blk_alloc ?_ _)); refine blk_put (cs := #[.int .i64 t128, .int .i64 t129, .int .i64 t130, .int .i64 t131, .int .i64 t132, .slice none 0 0, .int .i64 10]) ?_ 5 _ rfl; (with_reducible repeat (first | refine blk_drewN ?_ _ | refine blk_drew ?_ | refine blk_alloc ?_ _)); refine blk_put (cs := #[.int .i64 t128, .int .i64 t129, .int .i64 t130, .int .i64 t131, .int .i64 0, .slice none 0 0, .int .i64 10]) ?_ 4 _ rfl; (with_reducible repeat (first | refine blk_drewN ?_ _ | refine blk_drew ?_ | refine blk_alloc ?_ _)); refine blk_put (cs := #[.int .i64 t128, .int .i64 t129, .int .i64 t130, .int .i64 0, .int .i64 0, .slice none 0 0, .int .i64 10]) ?_ 3 _ rfl; (with_reducible repeat (first | refine blk_drewN ?_ _ | refine blk_drew ?_ | refine blk_alloc ?_ _)); refine blk_put (cs := #[.int .i64 t128, .int .i64 t129, .int .i64 0, .int .i64 0, .int .i64 0, .slice none 0 0, .int .i64 10]) ?_ 2 _ rfl; (with_reducible repeat (first | refine blk_drewN ?_ _ | refine blk_drew ?_ | refine blk_alloc ?_ _)); refine blk_put (cs := #[.int .i64 t128, .int .i64 0, .int .i64 0, .int .i64 0, .int .i64 0, .slice none 0 0, .int .i64 10]) ?_ 1 _ rfl; (with_reducible repeat (first | refine blk_drewN ?_ _ | refine blk_drew ?_ | refine blk_alloc ?_ _)); refine blk_put (cs := #[.int .i64 0, .int .i64 0, .int .i64 0, .int .i64 0, .int .i64 0, .slice none 0 0, .int .i64 10]) ?_ 0 _ rfl; (with_reducible repeat (first | refine blk_drewN ?_ _ | refine blk_drew ?_ | refine blk_alloc ?_ _)); exact BK126.out) hg (Kd.Q_ne HO_5.out BK126.out (by decide))); have n4_ := Aside0.mk (Kd.R_after (ok := (fun k_ => some k_ ≠ (u6 : Value).ownBlock)) (by (with_reducible repeat (first | apply Kd.R_alloc | apply Kd.R_drewN | apply Kd.R_drew)); exact Kd.R_mono (Kd.R_far (p := ⟨gb117, 4, none⟩) (Kd.R_far (p := ⟨gb117, 3, none⟩) (Kd.R_far (p := ⟨gb117, 2, none⟩) (Kd.R_far (p := ⟨gb117, 1, none⟩) (Kd.R_far (p := ⟨gb117, 0, none⟩) (Kd.R_far (p := ⟨gb126, 6, none⟩) (Kd.R_far (p := ⟨gb126, 5, none⟩) (Kd.R_far (p := ⟨gb126, 4, none⟩) (Kd.R_far (p := ⟨gb126, 3, none⟩) (Kd.R_far (p := ⟨gb126, 2, none⟩) (Kd.R_far (p := ⟨gb126, 1, none⟩) (Kd.R_far (p := ⟨gb126, 0, none⟩) (Kd.R_types (Kd.R_types HO135.out BK126.out (by decide)) BK117.out (by decide)) (fun _ hk => hk.1.2) (.int .i64 t128)) (fun _ hk => hk.1.2) (.int .i64 t129)) (fun _ hk => hk.1.2) (.int .i64 t130)) (fun _ hk => hk.1.2) (.int .i64 t131)) (fun _ hk => hk.1.2) (.int .i64 t132)) (fun _ hk => hk.1.2) (.slice Ao27 t133.length co27)) (fun _ hk => hk.1.2) (.int .i64 t136)) (fun _ hk => hk.2) (.int .i64 t128)) (fun _ hk => hk.2) (.int .i64 t129)) (fun _ hk => hk.2) (.int .i64 t130)) (fun _ hk => hk.2) (.int .i64 t131)) (fun _ hk => hk.2) (.int .i64 t132)) (fun _ hk => ⟨hk.1.1.2, hk.1.1.1.2⟩)) hg hat); have n5_ := Aside0.mk (hb); have n6_ := Aside0.mk (ho); clear HO_6; clear BK117; clear BK118; clear BK126; clear HO135; clear HB; clear HO_5; have HO_6 := n0_; have BK117 := n1_; have BK118 := n2_; have BK126 := n3_; have HO135 := n4_; have HB := n5_; have HO139 := n6_; clear n0_ n1_ n2_ n3_ n4_ n5_ n6_; clear ho hb hg hat))
        go_roundg k1
        case measure => have := HK1.out; omega
        case rel => exact ⟨(y137), (x6_1), (wrap64 (x7_1 + 1)), (t128), (t129), (t130), (t131), (t132), (x119000_1), (x119001_1), (x119002_1), (x119003_1), (x119004_1), zb5_3, H', ⟨by have := HK1.out; omega⟩, ⟨by (with_reducible repeat (first | apply Kd.Q_alloc | apply Kd.Q_drewN | apply Kd.Q_drew)); exact Kd.Q_mono HO139.out (fun _ hk => hk.1)⟩, ⟨by (with_reducible repeat (first | apply Kd.Q_alloc | apply Kd.Q_drewN | apply Kd.Q_drew)); exact Kd.Q_mono HO_6.out (fun _ hk => hk.2)⟩, ⟨by (with_reducible repeat (first | refine blk_drewN ?_ _ | refine blk_drew ?_ | refine blk_alloc ?_ _)); exact BK117.out⟩, ⟨by (with_reducible repeat (first | refine blk_drewN ?_ _ | refine blk_drew ?_ | refine blk_alloc ?_ _)); exact BK118.out⟩, ⟨by repeat (first | (with_reducible first | exact HB.out | apply below_alloc | apply pw_below_drewN | apply below_drew1 | refine below_set ?_ GE117.out | refine below_set ?_ GE118.out | refine below_set ?_ GE126.out) | exact HB.out)⟩⟩
       ·
        rw [if_neg c18] at H
        exact absurd H (by simp)
      ·
       rw [if_neg c17] at H
       have c17b0 : (t136 == 0) = false := beq_eq_false_iff_ne.mpr c17
       have c17b1 : (t136 != 0) = true := bne_iff_ne.mpr c17
       have H' := Aside0.mk H
       clear H
       go_wp2_with (first | ((with_reducible refine gate_callee (f := 4) rfl ?_); refine goesL_ (some 27) rfl rfl Try.func4 (by kernel_rfl) rfl #[.slice A0 l0.length c0, .int .i64 (wrap64 (2 * x7_1)), .int .i64 4] rfl zb6_3 ?_; (with_reducible refine (laws_lwAt.calls _ _ l0 (wrap64 (2 * x7_1)) 4 t125 _ ?side1 ?side2 A13.out).mono ?_); (case side1 => repeat (first | exact (Kd.C_below HR0.out HB.out) | (with_reducible refine Kd.C_alloc ?_ _) | (with_reducible refine Kd.C_drewN ?_ _) | (with_reducible refine Kd.C_drew ?_))); (case side2 => exact HC0.out); rintro e w' ⟨rfl, ⟨nd, rfl⟩⟩; refine ⟨_, rfl, ?_⟩; (try (rw [drewN_self wr]; generalize hq_ : World.drewN wr _ = wr; have n0_ : Aside0 (Kd.Q k32 32 wr w.heap.size (fun k_ => some k_ ≠ (u6 : Value).ownBlock) u5 x5_1) := ⟨by rw [← hq_]; exact zb7_3⟩; have n1_ : Aside0 (Kd.Q k32 32 wr w.heap.size (fun k_ => some k_ ≠ (u5 : Value).ownBlock) u6 x6_1) := ⟨by rw [← hq_]; exact zb8_3⟩; have n2_ : Aside0 (wr.heap[gb117]? = some (.cells #[.int .i64 x118000_1, .int .i64 x118001_1, .int .i64 x118002_1, .int .i64 x118003_1, .int .i64 x118004_1] 24 (0, 0))) := ⟨by rw [← hq_]; exact zb1_3⟩; have n3_ : Aside0 (wr.heap[gb118]? = some (.cells #[.int .i64 x119000_1, .int .i64 x119001_1, .int .i64 x119002_1, .int .i64 x119003_1, .int .i64 x119004_1] 24 (0, 0))) := ⟨by rw [← hq_]; exact zb4_3⟩; have n4_ : Aside0 (Below w.heap.size w wr) := ⟨by rw [← hq_]; exact zb3_3⟩; clear HO_5 HO_6 BK117 BK118 HB hq_; have HO_5 := n0_; have HO_6 := n1_; have BK117 := n2_; have BK118 := n3_; have HB := n4_; clear n0_ n1_ n2_ n3_ n4_))) | ((with_reducible refine gate_dst (N := 9) rfl ?_); refine box_event ?hg (N := 9) ?hd (cs := #[.int .i64 0, .int .i64 0, .int .i64 0, .int .i64 0, .int .i64 0, .slice none 0 0, .int .i64 0]) (t := 28) ?hr ?_; (case hd => rfl); (case hg => rfl); (case hr => first | (go_simp; done) | (go_simp; rfl)); intro gb126 hg w30 hbox hb; have n0_ := Aside0.mk (Kd.Q_below zb7_3 hb); have n1_ := Aside0.mk (Kd.Q_below zb8_3 hb); have n2_ := Aside0.mk (blk_below (g := gb117) (o := .cells #[.int .i64 x118000_1, .int .i64 x118001_1, .int .i64 x118002_1, .int .i64 x118003_1, .int .i64 x118004_1] 24 (0, 0)) zb1_3 hb); have n3_ := Aside0.mk (blk_below (g := gb118) (o := .cells #[.int .i64 x119000_1, .int .i64 x119001_1, .int .i64 x119002_1, .int .i64 x119003_1, .int .i64 x119004_1] 24 (0, 0)) zb4_3 hb); have n4_ := Aside0.mk (below_step zb3_3 hb); have n5_ := Aside0.mk (hbox); have n6_ := Aside0.mk ((zb9_3 : w.heap.size ≤ gb126)); have n7_ := Aside0.mk ((zb9_3 : w.heap.size ≤ gb126)); have n8_ := Aside0.mk ((zb10_3 : gb117 ≠ gb126)); have n9_ := Aside0.mk ((zb11_3 : gb126 ≠ gb117)); have n10_ := Aside0.mk ((zb12_3 : gb118 ≠ gb126)); have n11_ := Aside0.mk ((zb13_3 : gb126 ≠ gb118)); clear HO_5; clear HO_6; clear BK117; clear BK118; clear HB; have HO_5 := n0_; have HO_6 := n1_; have BK117 := n2_; have BK118 := n3_; have HB := n4_; have BK126 := n5_; have GW126 := n6_; have GE126 := n7_; have NB117_126 := n8_; have NB126_117 := n9_; have NB118_126 := n10_; have NB126_118 := n11_; clear n0_ n1_ n2_ n3_ n4_ n5_ n6_ n7_ n8_ n9_ n10_ n11_; clear hb hbox hg; have hnb31 := NB126_117.out; have hnc31 := NB117_126.out; have hnb32 := NB126_118.out; have hnc32 := NB118_126.out; have hcz33_0 := bcq_3 BK126.out 0; have hcz33_1 := bcq_3 BK126.out 1; have hcz33_2 := bcq_3 BK126.out 2; have hcz33_3 := bcq_3 BK126.out 3; have hcz33_4 := bcq_3 BK126.out 4; have hcz33_5 := bcq_3 BK126.out 5; have hcz33_6 := bcq_3 BK126.out 6; have hfz33_0 := blk_frozen BK126.out 0; have hfz33_1 := blk_frozen BK126.out 1; have hfz33_2 := blk_frozen BK126.out 2; have hfz33_3 := blk_frozen BK126.out 3; have hfz33_4 := blk_frozen BK126.out 4; have hfz33_5 := blk_frozen BK126.out 5; have hfz33_6 := blk_frozen BK126.out 6) | ((with_reducible refine gate_callee (f := 4) rfl ?_); refine goesL_ (some 34) rfl rfl Try.func4 (by kernel_rfl) rfl #[.slice A0 l0.length c0, .int .i64 (wrap64 ((wrap64 (2 * x7_1)) + 1)), .int .i64 4] rfl zb6_3 ?_; (with_reducible refine (laws_lwAt.calls _ _ l0 (wrap64 ((wrap64 (2 * x7_1)) + 1)) 4 t127 _ ?side1 ?side2 A14.out).mono ?_); (case side1 => exact Kd.C_below HR0.out zb14_3); (case side2 => exact HC0.out); rintro e w' ⟨rfl, ⟨nd, rfl⟩⟩; refine ⟨_, rfl, ?_⟩; have hnb34 := NB117_118.out; have hnc34 := NB118_117.out; have hcz35_0 := bcq_3 BK117.out 0; have hcz35_1 := bcq_3 BK117.out 1; have hcz35_2 := bcq_3 BK117.out 2; have hcz35_3 := bcq_3 BK117.out 3; have hcz35_4 := bcq_3 BK117.out 4; have hfz35_0 := blk_frozen BK117.out 0; have hfz35_1 := blk_frozen BK117.out 1; have hfz35_2 := blk_frozen BK117.out 2; have hfz35_3 := blk_frozen BK117.out 3; have hfz35_4 := blk_frozen BK117.out 4) | ((with_reducible refine gate_callee (f := 5) rfl ?_); refine goesL_ (some 50) rfl rfl Try.func5 (by kernel_rfl) rfl #[.agg #[.int .i64 x118000_1, .int .i64 x118001_1, .int .i64 x118002_1, .int .i64 x118003_1, .int .i64 x118004_1], .int .i64 (wrap64 (1 + t125))] rfl zb6_3 ?_; (with_reducible refine (impl_HalfSay.calls x118000_1 x118001_1 x118002_1 x118003_1 x118004_1 (wrap64 (1 + t125)) t128 t129 t130 t131 t132 t133 t136 _ A16.out).mono ?_); rintro e w36 ⟨v134, rfl, ho0, hb⟩; refine ⟨_, rfl, ?_⟩; have n0_ := Aside0.mk (Kd.Q_elder' zb15_3 (Kd.R_base ho0) hb); have n1_ := Aside0.mk (Kd.Q_elder' zb16_3 (Kd.R_base ho0) hb); have n2_ := Aside0.mk (Kd.R_lower (Kd.R_new' (Kd.R_new' ho0 (Kd.Q_lt zb15_3)) (Kd.Q_lt zb16_3)) (below_size zb14_3)); have n3_ := Aside0.mk (blk_below (g := gb117) (o := .cells #[.int .i64 x118000_1, .int .i64 x118001_1, .int .i64 x118002_1, .int .i64 x118003_1, .int .i64 x118004_1] 24 (0, 0)) zb17_3 hb); have n4_ := Aside0.mk (blk_below (g := gb118) (o := .cells #[.int .i64 x119000_1, .int .i64 x119001_1, .int .i64 x119002_1, .int .i64 x119003_1, .int .i64 x119004_1] 24 (0, 0)) zb18_3 hb); have n5_ := Aside0.mk (blk_below (g := gb126) (o := .cells #[.int .i64 0, .int .i64 0, .int .i64 0, .int .i64 0, .int .i64 0, .slice none 0 0, .int .i64 10] 28 (0, 0)) zb19_3 hb); have n6_ := Aside0.mk (below_step zb14_3 hb); clear HO_5; clear HO_6; clear BK117; clear BK118; clear BK126; clear HB; have HO_5 := n0_; have HO_6 := n1_; have HO135 := n2_; have BK117 := n3_; have BK118 := n4_; have BK126 := n5_; have HB := n6_; clear n0_ n1_ n2_ n3_ n4_ n5_ n6_; (try clear hb); (try clear hb2); (try clear hk); (try clear hi); (try clear ho0); have hcz37_0 := bcq_3 BK126.out 0; have hcz37_1 := bcq_3 BK126.out 1; have hcz37_2 := bcq_3 BK126.out 2; have hcz37_3 := bcq_3 BK126.out 3; have hcz37_4 := bcq_3 BK126.out 4; have hcz37_5 := bcq_3 BK126.out 5; have hcz37_6 := bcq_3 BK126.out 6; have hfz37_0 := blk_frozen BK126.out 0; have hfz37_1 := blk_frozen BK126.out 1; have hfz37_2 := blk_frozen BK126.out 2; have hfz37_3 := blk_frozen BK126.out 3; have hfz37_4 := blk_frozen BK126.out 4; have hfz37_5 := blk_frozen BK126.out 5; have hfz37_6 := blk_frozen BK126.out 6; obtain ⟨Ao38, co38, eo38⟩ := Kd.R_slice HO135.out; subst eo38))
       go_roundg k1
       case measure => have := HK1.out; omega
       case rel => exact ⟨(x5_1), (x6_1), (wrap64 (x7_1 + 1)), (x118000_1), (x118001_1), (x118002_1), (x118003_1), (x118004_1), (x119000_1), (x119001_1), (x119002_1), (x119003_1), (x119004_1), zb5_3, H', ⟨by have := HK1.out; omega⟩, ⟨by (with_reducible repeat (first | apply Kd.Q_alloc | apply Kd.Q_drewN | apply Kd.Q_drew)); exact Kd.Q_mono (Kd.Q_far (p := ⟨gb126, 6, none⟩) (Kd.Q_far (p := ⟨gb126, 5, none⟩) (Kd.Q_far (p := ⟨gb126, 4, none⟩) (Kd.Q_far (p := ⟨gb126, 3, none⟩) (Kd.Q_far (p := ⟨gb126, 2, none⟩) (Kd.Q_far (p := ⟨gb126, 1, none⟩) (Kd.Q_far (p := ⟨gb126, 0, none⟩) (Kd.Q_types HO_5.out BK126.out (by decide)) (fun _ hk => hk.2) (.int .i64 t128)) (fun _ hk => hk.2) (.int .i64 t129)) (fun _ hk => hk.2) (.int .i64 t130)) (fun _ hk => hk.2) (.int .i64 t131)) (fun _ hk => hk.2) (.int .i64 t132)) (fun _ hk => hk.2) (.slice Ao38 t133.length co38)) (fun _ hk => hk.2) (.int .i64 t136)) (fun _ hk => hk.1.1)⟩, ⟨by (with_reducible repeat (first | apply Kd.Q_alloc | apply Kd.Q_drewN | apply Kd.Q_drew)); exact Kd.Q_mono (Kd.Q_far (p := ⟨gb126, 6, none⟩) (Kd.Q_far (p := ⟨gb126, 5, none⟩) (Kd.Q_far (p := ⟨gb126, 4, none⟩) (Kd.Q_far (p := ⟨gb126, 3, none⟩) (Kd.Q_far (p := ⟨gb126, 2, none⟩) (Kd.Q_far (p := ⟨gb126, 1, none⟩) (Kd.Q_far (p := ⟨gb126, 0, none⟩) (Kd.Q_types HO_6.out BK126.out (by decide)) (fun _ hk => hk.2) (.int .i64 t128)) (fun _ hk => hk.2) (.int .i64 t129)) (fun _ hk => hk.2) (.int .i64 t130)) (fun _ hk => hk.2) (.int .i64 t131)) (fun _ hk => hk.2) (.int .i64 t132)) (fun _ hk => hk.2) (.slice Ao38 t133.length co38)) (fun _ hk => hk.2) (.int .i64 t136)) (fun _ hk => hk.1.1)⟩, ⟨by (with_reducible repeat (first | refine blk_drewN ?_ _ | refine blk_drew ?_ | refine blk_alloc ?_ _)); refine blk_far ?_ NB117_126.out _; (with_reducible repeat (first | refine blk_drewN ?_ _ | refine blk_drew ?_ | refine blk_alloc ?_ _)); refine blk_far ?_ NB117_126.out _; (with_reducible repeat (first | refine blk_drewN ?_ _ | refine blk_drew ?_ | refine blk_alloc ?_ _)); refine blk_far ?_ NB117_126.out _; (with_reducible repeat (first | refine blk_drewN ?_ _ | refine blk_drew ?_ | refine blk_alloc ?_ _)); refine blk_far ?_ NB117_126.out _; (with_reducible repeat (first | refine blk_drewN ?_ _ | refine blk_drew ?_ | refine blk_alloc ?_ _)); refine blk_far ?_ NB117_126.out _; (with_reducible repeat (first | refine blk_drewN ?_ _ | refine blk_drew ?_ | refine blk_alloc ?_ _)); refine blk_far ?_ NB117_126.out _; (with_reducible repeat (first | refine blk_drewN ?_ _ | refine blk_drew ?_ | refine blk_alloc ?_ _)); refine blk_far ?_ NB117_126.out _; (with_reducible repeat (first | refine blk_drewN ?_ _ | refine blk_drew ?_ | refine blk_alloc ?_ _)); exact BK117.out⟩, ⟨by (with_reducible repeat (first | refine blk_drewN ?_ _ | refine blk_drew ?_ | refine blk_alloc ?_ _)); refine blk_far ?_ NB118_126.out _; (with_reducible repeat (first | refine blk_drewN ?_ _ | refine blk_drew ?_ | refine blk_alloc ?_ _)); refine blk_far ?_ NB118_126.out _; (with_reducible repeat (first | refine blk_drewN ?_ _ | refine blk_drew ?_ | refine blk_alloc ?_ _)); refine blk_far ?_ NB118_126.out _; (with_reducible repeat (first | refine blk_drewN ?_ _ | refine blk_drew ?_ | refine blk_alloc ?_ _)); refine blk_far ?_ NB118_126.out _; (with_reducible repeat (first | refine blk_drewN ?_ _ | refine blk_drew ?_ | refine blk_alloc ?_ _)); refine blk_far ?_ NB118_126.out _; (with_reducible repeat (first | refine blk_drewN ?_ _ | refine blk_drew ?_ | refine blk_alloc ?_ _)); refine blk_far ?_ NB118_126.out _; (with_reducible repeat (first | refine blk_drewN ?_ _ | refine blk_drew ?_ | refine blk_alloc ?_ _)); refine blk_far ?_ NB118_126.out _; (with_reducible repeat (first | refine blk_drewN ?_ _ | refine blk_drew ?_ | refine blk_alloc ?_ _)); exact BK118.out⟩, ⟨by repeat (first | (with_reducible first | exact HB.out | apply below_alloc | apply pw_below_drewN | apply below_drew1 | refine below_set ?_ GE117.out | refine below_set ?_ GE118.out | refine below_set ?_ GE126.out) | exact HB.out)⟩⟩
     ·
      rw [if_neg c15] at H
      have c15b0 : (t127 == 0) = false := beq_eq_false_iff_ne.mpr c15
      have c15b1 : (t127 != 0) = true := bne_iff_ne.mpr c15
      by_cases c39 : t127 = 1
      ·
       rw [if_pos c39] at H
       have c39b0 : (t127 == 1) = true := beq_iff_eq.mpr c39
       have c39b1 : (t127 != 1) = false := bne_eq_false_iff_eq.mpr c39
       clear c39
       replace H := Option.bind_eq_some_iff.mp H
       obtain ⟨⟨t140, t141, t142, t143, t144, t145, t148⟩, A400, H⟩ := H
       replace H : (if t148 = 0 then (if x6_1.length + t145.length < 8796093022208 then (laws_FnTwo.l0 k1 l0 x5_1 (x6_1 ++ t145) (wrap64 (x7_1 + 1)) x118000_1 x118001_1 x118002_1 x118003_1 x118004_1 t140 t141 t142 t143 t144) else (none)) else (laws_FnTwo.l0 k1 l0 x5_1 x6_1 (wrap64 (x7_1 + 1)) x118000_1 x118001_1 x118002_1 x118003_1 x118004_1 x119000_1 x119001_1 x119002_1 x119003_1 x119004_1)) = some r := H
       have A40 := Aside0.mk A400
       clear A400
       by_cases c41 : t148 = 0
       ·
        rw [if_pos c41] at H
        have c41b0 : (t148 == 0) = true := beq_iff_eq.mpr c41
        have c41b1 : (t148 != 0) = false := bne_eq_false_iff_eq.mpr c41
        clear c41
        by_cases c42 : x6_1.length + t145.length < 8796093022208
        ·
         rw [if_pos c42] at H
         have LMc42 := Aside0.mk c42
         clear c42
         obtain ⟨y149, hy149⟩ : ∃ y_ : List (S32), y_ = (x6_1 ++ t145) := ⟨_, rfl⟩
         replace H : (laws_FnTwo.l0 k1 l0 x5_1 y149 (wrap64 (x7_1 + 1)) x118000_1 x118001_1 x118002_1 x118003_1 x118004_1 t140 t141 t142 t143 t144) = some r := by first | (rw [hy149]; with_reducible exact H) | (have H2_ := (Option.bind_some _ _).symm.trans H; rw [hy149]; with_reducible exact H2_) | (have H2_ := (Option.bind_some _ _).symm.trans H; with_reducible exact H2_) | with_reducible exact H | (rw [hy149]; exact H) | exact H
         have Ny149 := Aside0.mk hy149
         clear hy149
         have H' := Aside0.mk H
         clear H
         go_wp2_with (first | ((with_reducible refine gate_callee (f := 4) rfl ?_); refine goesL_ (some 27) rfl rfl Try.func4 (by kernel_rfl) rfl #[.slice A0 l0.length c0, .int .i64 (wrap64 (2 * x7_1)), .int .i64 4] rfl zb6_3 ?_; (with_reducible refine (laws_lwAt.calls _ _ l0 (wrap64 (2 * x7_1)) 4 t125 _ ?side1 ?side2 A13.out).mono ?_); (case side1 => repeat (first | exact (Kd.C_below HR0.out HB.out) | (with_reducible refine Kd.C_alloc ?_ _) | (with_reducible refine Kd.C_drewN ?_ _) | (with_reducible refine Kd.C_drew ?_))); (case side2 => exact HC0.out); rintro e w' ⟨rfl, ⟨nd, rfl⟩⟩; refine ⟨_, rfl, ?_⟩; (try (rw [drewN_self wr]; generalize hq_ : World.drewN wr _ = wr; have n0_ : Aside0 (Kd.Q k32 32 wr w.heap.size (fun k_ => some k_ ≠ (u6 : Value).ownBlock) u5 x5_1) := ⟨by rw [← hq_]; exact zb7_3⟩; have n1_ : Aside0 (Kd.Q k32 32 wr w.heap.size (fun k_ => some k_ ≠ (u5 : Value).ownBlock) u6 x6_1) := ⟨by rw [← hq_]; exact zb8_3⟩; have n2_ : Aside0 (wr.heap[gb117]? = some (.cells #[.int .i64 x118000_1, .int .i64 x118001_1, .int .i64 x118002_1, .int .i64 x118003_1, .int .i64 x118004_1] 24 (0, 0))) := ⟨by rw [← hq_]; exact zb1_3⟩; have n3_ : Aside0 (wr.heap[gb118]? = some (.cells #[.int .i64 x119000_1, .int .i64 x119001_1, .int .i64 x119002_1, .int .i64 x119003_1, .int .i64 x119004_1] 24 (0, 0))) := ⟨by rw [← hq_]; exact zb4_3⟩; have n4_ : Aside0 (Below w.heap.size w wr) := ⟨by rw [← hq_]; exact zb3_3⟩; clear HO_5 HO_6 BK117 BK118 HB hq_; have HO_5 := n0_; have HO_6 := n1_; have BK117 := n2_; have BK118 := n3_; have HB := n4_; clear n0_ n1_ n2_ n3_ n4_))) | ((with_reducible refine gate_dst (N := 9) rfl ?_); refine box_event ?hg (N := 9) ?hd (cs := #[.int .i64 0, .int .i64 0, .int .i64 0, .int .i64 0, .int .i64 0, .slice none 0 0, .int .i64 0]) (t := 28) ?hr ?_; (case hd => rfl); (case hg => rfl); (case hr => first | (go_simp; done) | (go_simp; rfl)); intro gb126 hg w43 hbox hb; have n0_ := Aside0.mk (Kd.Q_below zb7_3 hb); have n1_ := Aside0.mk (Kd.Q_below zb8_3 hb); have n2_ := Aside0.mk (blk_below (g := gb117) (o := .cells #[.int .i64 x118000_1, .int .i64 x118001_1, .int .i64 x118002_1, .int .i64 x118003_1, .int .i64 x118004_1] 24 (0, 0)) zb1_3 hb); have n3_ := Aside0.mk (blk_below (g := gb118) (o := .cells #[.int .i64 x119000_1, .int .i64 x119001_1, .int .i64 x119002_1, .int .i64 x119003_1, .int .i64 x119004_1] 24 (0, 0)) zb4_3 hb); have n4_ := Aside0.mk (below_step zb3_3 hb); have n5_ := Aside0.mk (hbox); have n6_ := Aside0.mk ((zb9_3 : w.heap.size ≤ gb126)); have n7_ := Aside0.mk ((zb9_3 : w.heap.size ≤ gb126)); have n8_ := Aside0.mk ((zb10_3 : gb117 ≠ gb126)); have n9_ := Aside0.mk ((zb11_3 : gb126 ≠ gb117)); have n10_ := Aside0.mk ((zb12_3 : gb118 ≠ gb126)); have n11_ := Aside0.mk ((zb13_3 : gb126 ≠ gb118)); clear HO_5; clear HO_6; clear BK117; clear BK118; clear HB; have HO_5 := n0_; have HO_6 := n1_; have BK117 := n2_; have BK118 := n3_; have HB := n4_; have BK126 := n5_; have GW126 := n6_; have GE126 := n7_; have NB117_126 := n8_; have NB126_117 := n9_; have NB118_126 := n10_; have NB126_118 := n11_; clear n0_ n1_ n2_ n3_ n4_ n5_ n6_ n7_ n8_ n9_ n10_ n11_; clear hb hbox hg; have hnb44 := NB126_117.out; have hnc44 := NB117_126.out; have hnb45 := NB126_118.out; have hnc45 := NB118_126.out; have hcz46_0 := bcq_3 BK126.out 0; have hcz46_1 := bcq_3 BK126.out 1; have hcz46_2 := bcq_3 BK126.out 2; have hcz46_3 := bcq_3 BK126.out 3; have hcz46_4 := bcq_3 BK126.out 4; have hcz46_5 := bcq_3 BK126.out 5; have hcz46_6 := bcq_3 BK126.out 6; have hfz46_0 := blk_frozen BK126.out 0; have hfz46_1 := blk_frozen BK126.out 1; have hfz46_2 := blk_frozen BK126.out 2; have hfz46_3 := blk_frozen BK126.out 3; have hfz46_4 := blk_frozen BK126.out 4; have hfz46_5 := blk_frozen BK126.out 5; have hfz46_6 := blk_frozen BK126.out 6) | ((with_reducible refine gate_callee (f := 4) rfl ?_); refine goesL_ (some 34) rfl rfl Try.func4 (by kernel_rfl) rfl #[.slice A0 l0.length c0, .int .i64 (wrap64 ((wrap64 (2 * x7_1)) + 1)), .int .i64 4] rfl zb6_3 ?_; (with_reducible refine (laws_lwAt.calls _ _ l0 (wrap64 ((wrap64 (2 * x7_1)) + 1)) 4 t127 _ ?side1 ?side2 A14.out).mono ?_); (case side1 => exact Kd.C_below HR0.out zb14_3); (case side2 => exact HC0.out); rintro e w' ⟨rfl, ⟨nd, rfl⟩⟩; refine ⟨_, rfl, ?_⟩; have hnb47 := NB118_117.out; have hnc47 := NB117_118.out; have hcz48_0 := bcq_3 BK118.out 0; have hcz48_1 := bcq_3 BK118.out 1; have hcz48_2 := bcq_3 BK118.out 2; have hcz48_3 := bcq_3 BK118.out 3; have hcz48_4 := bcq_3 BK118.out 4; have hfz48_0 := blk_frozen BK118.out 0; have hfz48_1 := blk_frozen BK118.out 1; have hfz48_2 := blk_frozen BK118.out 2; have hfz48_3 := blk_frozen BK118.out 3; have hfz48_4 := blk_frozen BK118.out 4) | ((with_reducible refine gate_callee (f := 5) rfl ?_); refine goesL_ (some 64) rfl rfl Try.func5 (by kernel_rfl) rfl #[.agg #[.int .i64 x119000_1, .int .i64 x119001_1, .int .i64 x119002_1, .int .i64 x119003_1, .int .i64 x119004_1], .int .i64 (wrap64 (1 + t125))] rfl zb6_3 ?_; (with_reducible refine (impl_HalfSay.calls x119000_1 x119001_1 x119002_1 x119003_1 x119004_1 (wrap64 (1 + t125)) t140 t141 t142 t143 t144 t145 t148 _ A40.out).mono ?_); rintro e w49 ⟨v146, rfl, ho0, hb⟩; refine ⟨_, rfl, ?_⟩; have n0_ := Aside0.mk (Kd.Q_elder' zb15_3 (Kd.R_base ho0) hb); have n1_ := Aside0.mk (Kd.Q_elder' zb16_3 (Kd.R_base ho0) hb); have n2_ := Aside0.mk (Kd.R_lower (Kd.R_new' (Kd.R_new' ho0 (Kd.Q_lt zb15_3)) (Kd.Q_lt zb16_3)) (below_size zb14_3)); have n3_ := Aside0.mk (blk_below (g := gb117) (o := .cells #[.int .i64 x118000_1, .int .i64 x118001_1, .int .i64 x118002_1, .int .i64 x118003_1, .int .i64 x118004_1] 24 (0, 0)) zb17_3 hb); have n4_ := Aside0.mk (blk_below (g := gb118) (o := .cells #[.int .i64 x119000_1, .int .i64 x119001_1, .int .i64 x119002_1, .int .i64 x119003_1, .int .i64 x119004_1] 24 (0, 0)) zb18_3 hb); have n5_ := Aside0.mk (blk_below (g := gb126) (o := .cells #[.int .i64 0, .int .i64 0, .int .i64 0, .int .i64 0, .int .i64 0, .slice none 0 0, .int .i64 10] 28 (0, 0)) zb19_3 hb); have n6_ := Aside0.mk (below_step zb14_3 hb); clear HO_5; clear HO_6; clear BK117; clear BK118; clear BK126; clear HB; have HO_5 := n0_; have HO_6 := n1_; have HO147 := n2_; have BK117 := n3_; have BK118 := n4_; have BK126 := n5_; have HB := n6_; clear n0_ n1_ n2_ n3_ n4_ n5_ n6_; (try clear hb); (try clear hb2); (try clear hk); (try clear hi); (try clear ho0); have hcz50_0 := bcq_3 BK126.out 0; have hcz50_1 := bcq_3 BK126.out 1; have hcz50_2 := bcq_3 BK126.out 2; have hcz50_3 := bcq_3 BK126.out 3; have hcz50_4 := bcq_3 BK126.out 4; have hcz50_5 := bcq_3 BK126.out 5; have hcz50_6 := bcq_3 BK126.out 6; have hfz50_0 := blk_frozen BK126.out 0; have hfz50_1 := blk_frozen BK126.out 1; have hfz50_2 := blk_frozen BK126.out 2; have hfz50_3 := blk_frozen BK126.out 3; have hfz50_4 := blk_frozen BK126.out 4; have hfz50_5 := blk_frozen BK126.out 5; have hfz50_6 := blk_frozen BK126.out 6; obtain ⟨Ao51, co51, eo51⟩ := Kd.R_slice HO147.out; subst eo51; have hcz52_0 := bcq_3 BK118.out 0; have hcz52_1 := bcq_3 BK118.out 1; have hcz52_2 := bcq_3 BK118.out 2; have hcz52_3 := bcq_3 BK118.out 3; have hcz52_4 := bcq_3 BK118.out 4; have hfz52_0 := blk_frozen BK118.out 0; have hfz52_1 := blk_frozen BK118.out 1; have hfz52_2 := blk_frozen BK118.out 2; have hfz52_3 := blk_frozen BK118.out 3; have hfz52_4 := blk_frozen BK118.out 4) | ((with_reducible refine gate_builtin (b := .append) (xs := #[.tmp 70, .tmp 72]) rfl ?_); at_builtin; refine Kd.Q_append_rows k32 (w0 := w) w.heap.size rfl (.tmp 70) (.tmp 72) 25 32 (.agg #[(.int .i64 0), (.int .i64 0)]) 16 rfl Try.underlying25 info32 rfl (by decide) (by omega) u6 x6_1 t145 _ _ _ (fun k_ => some k_ ≠ (u5 : Value).ownBlock ∧ some k_ ≠ (.slice Ao51 t145.length co51 : Value).ownBlock) (fun _ => False) rfl rfl ?aO ?aR (fun _ _ h => h) (fun _ h => h.elim) ?aF ?aB ?aS ?aL ?_; (case aR => refine (Kd.R_reads' (e := 32) (base := w.heap.size) (ok := fun k_ => ((True ∧ some k_ ≠ (u5 : Value).ownBlock) ∧ some k_ ≠ (u6 : Value).ownBlock)) (n := t145.length) (c := co51) ?_).2.2; exact (by (with_reducible repeat (first | apply Kd.R_alloc | apply Kd.R_drewN | apply Kd.R_drew)); exact (Kd.R_mono (Kd.R_mono (Kd.R_far (p := ⟨gb118, 4, none⟩) (Kd.R_far (p := ⟨gb118, 3, none⟩) (Kd.R_far (p := ⟨gb118, 2, none⟩) (Kd.R_far (p := ⟨gb118, 1, none⟩) (Kd.R_far (p := ⟨gb118, 0, none⟩) (Kd.R_far (p := ⟨gb126, 6, none⟩) (Kd.R_far (p := ⟨gb126, 5, none⟩) (Kd.R_far (p := ⟨gb126, 4, none⟩) (Kd.R_far (p := ⟨gb126, 3, none⟩) (Kd.R_far (p := ⟨gb126, 2, none⟩) (Kd.R_far (p := ⟨gb126, 1, none⟩) (Kd.R_far (p := ⟨gb126, 0, none⟩) (Kd.R_types (Kd.R_types HO147.out BK126.out (by decide)) BK118.out (by decide)) (fun _ hk => hk.1.2) (.int .i64 t140)) (fun _ hk => hk.1.2) (.int .i64 t141)) (fun _ hk => hk.1.2) (.int .i64 t142)) (fun _ hk => hk.1.2) (.int .i64 t143)) (fun _ hk => hk.1.2) (.int .i64 t144)) (fun _ hk => hk.1.2) (.slice Ao51 t145.length co51)) (fun _ hk => hk.1.2) (.int .i64 t148)) (fun _ hk => hk.2) (.int .i64 t140)) (fun _ hk => hk.2) (.int .i64 t141)) (fun _ hk => hk.2) (.int .i64 t142)) (fun _ hk => hk.2) (.int .i64 t143)) (fun _ hk => hk.2) (.int .i64 t144)) (fun _ h_ => h_.1)) (fun _ h_ => h_.1)))); (case aB => exact zb14_3); (case aF => exact (fun k_ hk => ⟨Kd.fresh' (Kd.Q_lt (by (with_reducible repeat (first | apply Kd.Q_alloc | apply Kd.Q_drewN | apply Kd.Q_drew)); exact (Kd.Q_mono (Kd.Q_mono (Kd.Q_far (p := ⟨gb118, 4, none⟩) (Kd.Q_far (p := ⟨gb118, 3, none⟩) (Kd.Q_far (p := ⟨gb118, 2, none⟩) (Kd.Q_far (p := ⟨gb118, 1, none⟩) (Kd.Q_far (p := ⟨gb118, 0, none⟩) (Kd.Q_far (p := ⟨gb126, 6, none⟩) (Kd.Q_far (p := ⟨gb126, 5, none⟩) (Kd.Q_far (p := ⟨gb126, 4, none⟩) (Kd.Q_far (p := ⟨gb126, 3, none⟩) (Kd.Q_far (p := ⟨gb126, 2, none⟩) (Kd.Q_far (p := ⟨gb126, 1, none⟩) (Kd.Q_far (p := ⟨gb126, 0, none⟩) (Kd.Q_types (Kd.Q_types HO_5.out BK126.out (by decide)) BK118.out (by decide)) (fun _ hk => hk.1.2) (.int .i64 t140)) (fun _ hk => hk.1.2) (.int .i64 t141)) (fun _ hk => hk.1.2) (.int .i64 t142)) (fun _ hk => hk.1.2) (.int .i64 t143)) (fun _ hk => hk.1.2) (.int .i64 t144)) (fun _ hk => hk.1.2) (.slice Ao51 t145.length co51)) (fun _ hk => hk.1.2) (.int .i64 t148)) (fun _ hk => hk.2) (.int .i64 t140)) (fun _ hk => hk.2) (.int .i64 t141)) (fun _ hk => hk.2) (.int .i64 t142)) (fun _ hk => hk.2) (.int .i64 t143)) (fun _ hk => hk.2) (.int .i64 t144)) (fun _ h_ => h_.1)) (fun _ h_ => h_.1)))) k_ hk, Kd.fresh' (Kd.R_lt (by (with_reducible repeat (first | apply Kd.R_alloc | apply Kd.R_drewN | apply Kd.R_drew)); exact (Kd.R_mono (Kd.R_mono (Kd.R_far (p := ⟨gb118, 4, none⟩) (Kd.R_far (p := ⟨gb118, 3, none⟩) (Kd.R_far (p := ⟨gb118, 2, none⟩) (Kd.R_far (p := ⟨gb118, 1, none⟩) (Kd.R_far (p := ⟨gb118, 0, none⟩) (Kd.R_far (p := ⟨gb126, 6, none⟩) (Kd.R_far (p := ⟨gb126, 5, none⟩) (Kd.R_far (p := ⟨gb126, 4, none⟩) (Kd.R_far (p := ⟨gb126, 3, none⟩) (Kd.R_far (p := ⟨gb126, 2, none⟩) (Kd.R_far (p := ⟨gb126, 1, none⟩) (Kd.R_far (p := ⟨gb126, 0, none⟩) (Kd.R_types (Kd.R_types HO147.out BK126.out (by decide)) BK118.out (by decide)) (fun _ hk => hk.1.2) (.int .i64 t140)) (fun _ hk => hk.1.2) (.int .i64 t141)) (fun _ hk => hk.1.2) (.int .i64 t142)) (fun _ hk => hk.1.2) (.int .i64 t143)) (fun _ hk => hk.1.2) (.int .i64 t144)) (fun _ hk => hk.1.2) (.slice Ao51 t145.length co51)) (fun _ hk => hk.1.2) (.int .i64 t148)) (fun _ hk => hk.2) (.int .i64 t140)) (fun _ hk => hk.2) (.int .i64 t141)) (fun _ hk => hk.2) (.int .i64 t142)) (fun _ hk => hk.2) (.int .i64 t143)) (fun _ hk => hk.2) (.int .i64 t144)) (fun _ h_ => h_.1)) (fun _ h_ => h_.1)))) k_ hk⟩)); (case aO => exact (by (with_reducible repeat (first | apply Kd.Q_alloc | apply Kd.Q_drewN | apply Kd.Q_drew)); exact Kd.Q_mono (Kd.Q_far (p := ⟨gb118, 4, none⟩) (Kd.Q_far (p := ⟨gb118, 3, none⟩) (Kd.Q_far (p := ⟨gb118, 2, none⟩) (Kd.Q_far (p := ⟨gb118, 1, none⟩) (Kd.Q_far (p := ⟨gb118, 0, none⟩) (Kd.Q_far (p := ⟨gb126, 6, none⟩) (Kd.Q_far (p := ⟨gb126, 5, none⟩) (Kd.Q_far (p := ⟨gb126, 4, none⟩) (Kd.Q_far (p := ⟨gb126, 3, none⟩) (Kd.Q_far (p := ⟨gb126, 2, none⟩) (Kd.Q_far (p := ⟨gb126, 1, none⟩) (Kd.Q_far (p := ⟨gb126, 0, none⟩) (Kd.Q_types (Kd.Q_types HO_6.out BK126.out (by decide)) BK118.out (by decide)) (fun _ hk => hk.1.2) (.int .i64 t140)) (fun _ hk => hk.1.2) (.int .i64 t141)) (fun _ hk => hk.1.2) (.int .i64 t142)) (fun _ hk => hk.1.2) (.int .i64 t143)) (fun _ hk => hk.1.2) (.int .i64 t144)) (fun _ hk => hk.1.2) (.slice Ao51 t145.length co51)) (fun _ hk => hk.1.2) (.int .i64 t148)) (fun _ hk => hk.2) (.int .i64 t140)) (fun _ hk => hk.2) (.int .i64 t141)) (fun _ hk => hk.2) (.int .i64 t142)) (fun _ hk => hk.2) (.int .i64 t143)) (fun _ hk => hk.2) (.int .i64 t144)) (fun _ hk => ⟨hk.1.1.1, hk.1.1.2⟩))); (case aS => exact (below_size zb14_3)); (case aL => have := LMc42.out; omega); intro v150 w53 ho hb hg hat; rw [← Ny149.out] at ho; have n0_ := Aside0.mk (Kd.Q_after (ok := (fun k_ => some k_ ≠ (.slice Ao51 t145.length co51 : Value).ownBlock)) (by (with_reducible repeat (first | apply Kd.Q_alloc | apply Kd.Q_drewN | apply Kd.Q_drew)); exact Kd.Q_mono (Kd.Q_far (p := ⟨gb118, 4, none⟩) (Kd.Q_far (p := ⟨gb118, 3, none⟩) (Kd.Q_far (p := ⟨gb118, 2, none⟩) (Kd.Q_far (p := ⟨gb118, 1, none⟩) (Kd.Q_far (p := ⟨gb118, 0, none⟩) (Kd.Q_far (p := ⟨gb126, 6, none⟩) (Kd.Q_far (p := ⟨gb126, 5, none⟩) (Kd.Q_far (p := ⟨gb126, 4, none⟩) (Kd.Q_far (p := ⟨gb126, 3, none⟩) (Kd.Q_far (p := ⟨gb126, 2, none⟩) (Kd.Q_far (p := ⟨gb126, 1, none⟩) (Kd.Q_far (p := ⟨gb126, 0, none⟩) (Kd.Q_types (Kd.Q_types HO_5.out BK126.out (by decide)) BK118.out (by decide)) (fun _ hk => hk.1.2) (.int .i64 t140)) (fun _ hk => hk.1.2) (.int .i64 t141)) (fun _ hk => hk.1.2) (.int .i64 t142)) (fun _ hk => hk.1.2) (.int .i64 t143)) (fun _ hk => hk.1.2) (.int .i64 t144)) (fun _ hk => hk.1.2) (.slice Ao51 t145.length co51)) (fun _ hk => hk.1.2) (.int .i64 t148)) (fun _ hk => hk.2) (.int .i64 t140)) (fun _ hk => hk.2) (.int .i64 t141)) (fun _ hk => hk.2) (.int .i64 t142)) (fun _ hk => hk.2) (.int .i64 t143)) (fun _ hk => hk.2) (.int .i64 t144)) (fun _ hk => ⟨hk.1.1.2, hk.1.1.1⟩)) hg hat); have n1_ := Aside0.mk (blk_grown (g := gb117) (o := .cells #[.int .i64 x118000_1, .int .i64 x118001_1, .int .i64 x118002_1, .int .i64 x118003_1, .int .i64 x118004_1] 24 (0, 0)) (by (with_reducible repeat (first | refine blk_drewN ?_ _ | refine blk_drew ?_ | refine blk_alloc ?_ _)); refine blk_far ?_ NB117_118.out _; (with_reducible repeat (first | refine blk_drewN ?_ _ | refine blk_drew ?_ | refine blk_alloc ?_ _)); refine blk_far ?_ NB117_118.out _; (with_reducible repeat (first | refine blk_drewN ?_ _ | refine blk_drew ?_ | refine blk_alloc ?_ _)); refine blk_far ?_ NB117_118.out _; (with_reducible repeat (first | refine blk_drewN ?_ _ | refine blk_drew ?_ | refine blk_alloc ?_ _)); refine blk_far ?_ NB117_118.out _; (with_reducible repeat (first | refine blk_drewN ?_ _ | refine blk_drew ?_ | refine blk_alloc ?_ _)); refine blk_far ?_ NB117_118.out _; (with_reducible repeat (first | refine blk_drewN ?_ _ | refine blk_drew ?_ | refine blk_alloc ?_ _)); refine blk_far ?_ NB117_126.out _; (with_reducible repeat (first | refine blk_drewN ?_ _ | refine blk_drew ?_ | refine blk_alloc ?_ _)); refine blk_far ?_ NB117_126.out _; (with_reducible repeat (first | refine blk_drewN ?_ _ | refine blk_drew ?_ | refine blk_alloc ?_ _)); refine blk_far ?_ NB117_126.out _; (with_reducible repeat (first | refine blk_drewN ?_ _ | refine blk_drew ?_ | refine blk_alloc ?_ _)); refine blk_far ?_ NB117_126.out _; (with_reducible repeat (first | refine blk_drewN ?_ _ | refine blk_drew ?_ | refine blk_alloc ?_ _)); refine blk_far ?_ NB117_126.out _; (with_reducible repeat (first | refine blk_drewN ?_ _ | refine blk_drew ?_ | refine blk_alloc ?_ _)); refine blk_far ?_ NB117_126.out _; (with_reducible repeat (first | refine blk_drewN ?_ _ | refine blk_drew ?_ | refine blk_alloc ?_ _)); refine blk_far ?_ NB117_126.out _; (with_reducible repeat (first | refine blk_drewN ?_ _ | refine blk_drew ?_ | refine blk_alloc ?_ _)); exact BK117.out) hg (Kd.Q_ne HO_6.out BK117.out (by decide))); have n2_ := Aside0.mk (blk_grown (g := gb118) (o := .cells #[.int .i64 t140, .int .i64 t141, .int .i64 t142, .int .i64 t143, .int .i64 t144] 24 (0, 0)) (by (with_reducible repeat (first | refine blk_drewN ?_ _ | refine blk_drew ?_ | refine blk_alloc ?_ _)); refine blk_put (cs := #[.int .i64 t140, .int .i64 t141, .int .i64 t142, .int .i64 t143, .int .i64 x119004_1]) ?_ 4 _ rfl; (with_reducible repeat (first | refine blk_drewN ?_ _ | refine blk_drew ?_ | refine blk_alloc ?_ _)); refine blk_put (cs := #[.int .i64 t140, .int .i64 t141, .int .i64 t142, .int .i64 x119003_1, .int .i64 x119004_1]) ?_ 3 _ rfl; (with_reducible repeat (first | refine blk_drewN ?_ _ | refine blk_drew ?_ | refine blk_alloc ?_ _)); refine blk_put (cs := #[.int .i64 t140, .int .i64 t141, .int .i64 x119002_1, .int .i64 x119003_1, .int .i64 x119004_1]) ?_ 2 _ rfl; (with_reducible repeat (first | refine blk_drewN ?_ _ | refine blk_drew ?_ | refine blk_alloc ?_ _)); refine blk_put (cs := #[.int .i64 t140, .int .i64 x119001_1, .int .i64 x119002_1, .int .i64 x119003_1, .int .i64 x119004_1]) ?_ 1 _ rfl; (with_reducible repeat (first | refine blk_drewN ?_ _ | refine blk_drew ?_ | refine blk_alloc ?_ _)); refine blk_put (cs := #[.int .i64 x119000_1, .int .i64 x119001_1, .int .i64 x119002_1, .int .i64 x119003_1, .int .i64 x119004_1]) ?_ 0 _ rfl; (with_reducible repeat (first | refine blk_drewN ?_ _ | refine blk_drew ?_ | refine blk_alloc ?_ _)); refine blk_far ?_ NB118_126.out _; (with_reducible repeat (first | refine blk_drewN ?_ _ | refine blk_drew ?_ | refine blk_alloc ?_ _)); refine blk_far ?_ NB118_126.out _; (with_reducible repeat (first | refine blk_drewN ?_ _ | refine blk_drew ?_ | refine blk_alloc ?_ _)); refine blk_far ?_ NB118_126.out _; (with_reducible repeat (first | refine blk_drewN ?_ _ | refine blk_drew ?_ | refine blk_alloc ?_ _)); refine blk_far ?_ NB118_126.out _; (with_reducible repeat (first | refine blk_drewN ?_ _ | refine blk_drew ?_ | refine blk_alloc ?_ _)); refine blk_far ?_ NB118_126.out _; (with_reducible repeat (first | refine blk_drewN ?_ _ | refine blk_drew ?_ | refine blk_alloc ?_ _)); refine blk_far ?_ NB118_126.out _; (with_reducible repeat (first | refine blk_drewN ?_ _ | refine blk_drew ?_ | refine blk_alloc ?_ _)); refine blk_far ?_ NB118_126.out _; (with_reducible repeat (first | refine blk_drewN ?_ _ | refine blk_drew ?_ | refine blk_alloc ?_ _)); exact BK118.out) hg (Kd.Q_ne HO_6.out BK118.out (by decide))); have n3_ := Aside0.mk (blk_grown (g := gb126) (o := .cells #[.int .i64 t140, .int .i64 t141, .int .i64 t142, .int .i64 t143, .int .i64 t144, .slice Ao51 t145.length co51, .int .i64 t148] 28 (0, 0)) (by (with_reducible repeat (first | refine blk_drewN ?_ _ | refine blk_drew ?_ | refine blk_alloc ?_ _)); refine blk_far ?_ NB126_118.out _; (with_reducible repeat (first | refine blk_drewN ?_ _ | refine blk_drew ?_ | refine blk_alloc ?_ _)); refine blk_far ?_ NB126_118.out _; (with_reducible repeat (first | refine blk_drewN ?_ _ | refine blk_drew ?_ | refine blk_alloc ?_ _)); refine blk_far ?_ NB126_118.out _; (with_reducible repeat (first | refine blk_drewN ?_ _ | refine blk_drew ?_ | refine blk_alloc ?_ _)); refine blk_far ?_ NB126_118.out _; (with_reducible repeat (first | refine blk_drewN ?_ _ | refine blk_drew ?_ | refine blk_alloc ?_ _)); refine blk_far ?_ NB126_118.out _; (with_reducible repeat (first | refine blk_drewN ?_ _ | refine blk_drew ?_ | refine blk_alloc ?_ _)); refine blk_put (cs := #[.int .i64 t140, .int .i64 t141, .int .i64 t142, .int .i64 t143, .int .i64 t144, .slice Ao51 t145.length co51, .int .i64 10]) ?_ 6 _ rfl; (with_reducible repeat (first | refine blk_drewN ?_ _ | refine blk_drew ?_ | refine blk_alloc ?_ _)); refine blk_put (cs := #[.int .i64 t140, .int .i64 t141, .int .i64 t142, .int .i64 t143, .int .i64 t144, .slice none 0 0, .int .i64 10]) ?_ 5 _ rfl; (with_reducible repeat (first | refine blk_drewN ?_ _ | refine blk_drew ?_ | refine blk_alloc ?_ _)); refine blk_put (cs := #[.int .i64 t140, .int .i64 t141, .int .i64 t142, .int .i64 t143, .int .i64 0, .slice none 0 0, .int .i64 10]) ?_ 4 _ rfl; (with_reducible repeat (first | refine blk_drewN ?_ _ | refine blk_drew ?_ | refine blk_alloc ?_ _)); refine blk_put (cs := #[.int .i64 t140, .int .i64 t141, .int .i64 t142, .int .i64 0, .int .i64 0, .slice none 0 0, .int .i64 10]) ?_ 3 _ rfl; (with_reducible repeat (first | refine blk_drewN ?_ _ | refine blk_drew ?_ | refine blk_alloc ?_ _)); refine blk_put (cs := #[.int .i64 t140, .int .i64 t141, .int .i64 0, .int .i64 0, .int .i64 0, .slice none 0 0, .int .i64 10]) ?_ 2 _ rfl; (with_reducible repeat (first | refine blk_drewN ?_ _ | refine blk_drew ?_ | refine blk_alloc ?_ _)); refine blk_put (cs := #[.int .i64 t140, .int .i64 0, .int .i64 0, .int .i64 0, .int .i64 0, .slice none 0 0, .int .i64 10]) ?_ 1 _ rfl; (with_reducible repeat (first | refine blk_drewN ?_ _ | refine blk_drew ?_ | refine blk_alloc ?_ _)); refine blk_put (cs := #[.int .i64 0, .int .i64 0, .int .i64 0, .int .i64 0, .int .i64 0, .slice none 0 0, .int .i64 10]) ?_ 0 _ rfl; (with_reducible repeat (first | refine blk_drewN ?_ _ | refine blk_drew ?_ | refine blk_alloc ?_ _)); exact BK126.out) hg (Kd.Q_ne HO_6.out BK126.out (by decide))); have n4_ := Aside0.mk (Kd.R_after (ok := (fun k_ => some k_ ≠ (u5 : Value).ownBlock)) (by (with_reducible repeat (first | apply Kd.R_alloc | apply Kd.R_drewN | apply Kd.R_drew)); exact Kd.R_mono (Kd.R_far (p := ⟨gb118, 4, none⟩) (Kd.R_far (p := ⟨gb118, 3, none⟩) (Kd.R_far (p := ⟨gb118, 2, none⟩) (Kd.R_far (p := ⟨gb118, 1, none⟩) (Kd.R_far (p := ⟨gb118, 0, none⟩) (Kd.R_far (p := ⟨gb126, 6, none⟩) (Kd.R_far (p := ⟨gb126, 5, none⟩) (Kd.R_far (p := ⟨gb126, 4, none⟩) (Kd.R_far (p := ⟨gb126, 3, none⟩) (Kd.R_far (p := ⟨gb126, 2, none⟩) (Kd.R_far (p := ⟨gb126, 1, none⟩) (Kd.R_far (p := ⟨gb126, 0, none⟩) (Kd.R_types (Kd.R_types HO147.out BK126.out (by decide)) BK118.out (by decide)) (fun _ hk => hk.1.2) (.int .i64 t140)) (fun _ hk => hk.1.2) (.int .i64 t141)) (fun _ hk => hk.1.2) (.int .i64 t142)) (fun _ hk => hk.1.2) (.int .i64 t143)) (fun _ hk => hk.1.2) (.int .i64 t144)) (fun _ hk => hk.1.2) (.slice Ao51 t145.length co51)) (fun _ hk => hk.1.2) (.int .i64 t148)) (fun _ hk => hk.2) (.int .i64 t140)) (fun _ hk => hk.2) (.int .i64 t141)) (fun _ hk => hk.2) (.int .i64 t142)) (fun _ hk => hk.2) (.int .i64 t143)) (fun _ hk => hk.2) (.int .i64 t144)) (fun _ hk => ⟨hk.1.1.1.2, hk.1.1.2⟩)) hg hat); have n5_ := Aside0.mk (hb); have n6_ := Aside0.mk (ho); clear HO_5; clear BK117; clear BK118; clear BK126; clear HO147; clear HB; clear HO_6; have HO_5 := n0_; have BK117 := n1_; have BK118 := n2_; have BK126 := n3_; have HO147 := n4_; have HB := n5_; have HO151 := n6_; clear n0_ n1_ n2_ n3_ n4_ n5_ n6_; clear ho hb hg hat))
         go_roundg k1
         case measure => have := HK1.out; omega
         case rel => exact ⟨(x5_1), (y149), (wrap64 (x7_1 + 1)), (x118000_1), (x118001_1), (x118002_1), (x118003_1), (x118004_1), (t140), (t141), (t142), (t143), (t144), zb5_3, H', ⟨by have := HK1.out; omega⟩, ⟨by (with_reducible repeat (first | apply Kd.Q_alloc | apply Kd.Q_drewN | apply Kd.Q_drew)); exact Kd.Q_mono HO_5.out (fun _ hk => hk.2)⟩, ⟨by (with_reducible repeat (first | apply Kd.Q_alloc | apply Kd.Q_drewN | apply Kd.Q_drew)); exact Kd.Q_mono HO151.out (fun _ hk => hk.1)⟩, ⟨by (with_reducible repeat (first | refine blk_drewN ?_ _ | refine blk_drew ?_ | refine blk_alloc ?_ _)); exact BK117.out⟩, ⟨by (with_reducible repeat (first | refine blk_drewN ?_ _ | refine blk_drew ?_ | refine blk_alloc ?_ _)); exact BK118.out⟩, ⟨by repeat (first | (with_reducible first | exact HB.out | apply below_alloc | apply pw_below_drewN | apply below_drew1 | refine below_set ?_ GE117.out | refine below_set ?_ GE118.out | refine below_set ?_ GE126.out) | exact HB.out)⟩⟩
        ·
         rw [if_neg c42] at H
         exact absurd H (by simp)
       ·
        rw [if_neg c41] at H
        have c41b0 : (t148 == 0) = false := beq_eq_false_iff_ne.mpr c41
        have c41b1 : (t148 != 0) = true := bne_iff_ne.mpr c41
        have H' := Aside0.mk H
        clear H
        go_wp2_with (first | ((with_reducible refine gate_callee (f := 4) rfl ?_); refine goesL_ (some 27) rfl rfl Try.func4 (by kernel_rfl) rfl #[.slice A0 l0.length c0, .int .i64 (wrap64 (2 * x7_1)), .int .i64 4] rfl zb6_3 ?_; (with_reducible refine (laws_lwAt.calls _ _ l0 (wrap64 (2 * x7_1)) 4 t125 _ ?side1 ?side2 A13.out).mono ?_); (case side1 => repeat (first | exact (Kd.C_below HR0.out HB.out) | (with_reducible refine Kd.C_alloc ?_ _) | (with_reducible refine Kd.C_drewN ?_ _) | (with_reducible refine Kd.C_drew ?_))); (case side2 => exact HC0.out); rintro e w' ⟨rfl, ⟨nd, rfl⟩⟩; refine ⟨_, rfl, ?_⟩; (try (rw [drewN_self wr]; generalize hq_ : World.drewN wr _ = wr; have n0_ : Aside0 (Kd.Q k32 32 wr w.heap.size (fun k_ => some k_ ≠ (u6 : Value).ownBlock) u5 x5_1) := ⟨by rw [← hq_]; exact zb7_3⟩; have n1_ : Aside0 (Kd.Q k32 32 wr w.heap.size (fun k_ => some k_ ≠ (u5 : Value).ownBlock) u6 x6_1) := ⟨by rw [← hq_]; exact zb8_3⟩; have n2_ : Aside0 (wr.heap[gb117]? = some (.cells #[.int .i64 x118000_1, .int .i64 x118001_1, .int .i64 x118002_1, .int .i64 x118003_1, .int .i64 x118004_1] 24 (0, 0))) := ⟨by rw [← hq_]; exact zb1_3⟩; have n3_ : Aside0 (wr.heap[gb118]? = some (.cells #[.int .i64 x119000_1, .int .i64 x119001_1, .int .i64 x119002_1, .int .i64 x119003_1, .int .i64 x119004_1] 24 (0, 0))) := ⟨by rw [← hq_]; exact zb4_3⟩; have n4_ : Aside0 (Below w.heap.size w wr) := ⟨by rw [← hq_]; exact zb3_3⟩; clear HO_5 HO_6 BK117 BK118 HB hq_; have HO_5 := n0_; have HO_6 := n1_; have BK117 := n2_; have BK118 := n3_; have HB := n4_; clear n0_ n1_ n2_ n3_ n4_))) | ((with_reducible refine gate_dst (N := 9) rfl ?_); refine box_event ?hg (N := 9) ?hd (cs := #[.int .i64 0, .int .i64 0, .int .i64 0, .int .i64 0, .int .i64 0, .slice none 0 0, .int .i64 0]) (t := 28) ?hr ?_; (case hd => rfl); (case hg => rfl); (case hr => first | (go_simp; done) | (go_simp; rfl)); intro gb126 hg w54 hbox hb; have n0_ := Aside0.mk (Kd.Q_below zb7_3 hb); have n1_ := Aside0.mk (Kd.Q_below zb8_3 hb); have n2_ := Aside0.mk (blk_below (g := gb117) (o := .cells #[.int .i64 x118000_1, .int .i64 x118001_1, .int .i64 x118002_1, .int .i64 x118003_1, .int .i64 x118004_1] 24 (0, 0)) zb1_3 hb); have n3_ := Aside0.mk (blk_below (g := gb118) (o := .cells #[.int .i64 x119000_1, .int .i64 x119001_1, .int .i64 x119002_1, .int .i64 x119003_1, .int .i64 x119004_1] 24 (0, 0)) zb4_3 hb); have n4_ := Aside0.mk (below_step zb3_3 hb); have n5_ := Aside0.mk (hbox); have n6_ := Aside0.mk ((zb9_3 : w.heap.size ≤ gb126)); have n7_ := Aside0.mk ((zb9_3 : w.heap.size ≤ gb126)); have n8_ := Aside0.mk ((zb10_3 : gb117 ≠ gb126)); have n9_ := Aside0.mk ((zb11_3 : gb126 ≠ gb117)); have n10_ := Aside0.mk ((zb12_3 : gb118 ≠ gb126)); have n11_ := Aside0.mk ((zb13_3 : gb126 ≠ gb118)); clear HO_5; clear HO_6; clear BK117; clear BK118; clear HB; have HO_5 := n0_; have HO_6 := n1_; have BK117 := n2_; have BK118 := n3_; have HB := n4_; have BK126 := n5_; have GW126 := n6_; have GE126 := n7_; have NB117_126 := n8_; have NB126_117 := n9_; have NB118_126 := n10_; have NB126_118 := n11_; clear n0_ n1_ n2_ n3_ n4_ n5_ n6_ n7_ n8_ n9_ n10_ n11_; clear hb hbox hg; have hnb55 := NB126_117.out; have hnc55 := NB117_126.out; have hnb56 := NB126_118.out; have hnc56 := NB118_126.out; have hcz57_0 := bcq_3 BK126.out 0; have hcz57_1 := bcq_3 BK126.out 1; have hcz57_2 := bcq_3 BK126.out 2; have hcz57_3 := bcq_3 BK126.out 3; have hcz57_4 := bcq_3 BK126.out 4; have hcz57_5 := bcq_3 BK126.out 5; have hcz57_6 := bcq_3 BK126.out 6; have hfz57_0 := blk_frozen BK126.out 0; have hfz57_1 := blk_frozen BK126.out 1; have hfz57_2 := blk_frozen BK126.out 2; have hfz57_3 := blk_frozen BK126.out 3; have hfz57_4 := blk_frozen BK126.out 4; have hfz57_5 := blk_frozen BK126.out 5; have hfz57_6 := blk_frozen BK126.out 6) | ((with_reducible refine gate_callee (f := 4) rfl ?_); refine goesL_ (some 34) rfl rfl Try.func4 (by kernel_rfl) rfl #[.slice A0 l0.length c0, .int .i64 (wrap64 ((wrap64 (2 * x7_1)) + 1)), .int .i64 4] rfl zb6_3 ?_; (with_reducible refine (laws_lwAt.calls _ _ l0 (wrap64 ((wrap64 (2 * x7_1)) + 1)) 4 t127 _ ?side1 ?side2 A14.out).mono ?_); (case side1 => exact Kd.C_below HR0.out zb14_3); (case side2 => exact HC0.out); rintro e w' ⟨rfl, ⟨nd, rfl⟩⟩; refine ⟨_, rfl, ?_⟩; have hnb58 := NB118_117.out; have hnc58 := NB117_118.out; have hcz59_0 := bcq_3 BK118.out 0; have hcz59_1 := bcq_3 BK118.out 1; have hcz59_2 := bcq_3 BK118.out 2; have hcz59_3 := bcq_3 BK118.out 3; have hcz59_4 := bcq_3 BK118.out 4; have hfz59_0 := blk_frozen BK118.out 0; have hfz59_1 := blk_frozen BK118.out 1; have hfz59_2 := blk_frozen BK118.out 2; have hfz59_3 := blk_frozen BK118.out 3; have hfz59_4 := blk_frozen BK118.out 4) | ((with_reducible refine gate_callee (f := 5) rfl ?_); refine goesL_ (some 64) rfl rfl Try.func5 (by kernel_rfl) rfl #[.agg #[.int .i64 x119000_1, .int .i64 x119001_1, .int .i64 x119002_1, .int .i64 x119003_1, .int .i64 x119004_1], .int .i64 (wrap64 (1 + t125))] rfl zb6_3 ?_; (with_reducible refine (impl_HalfSay.calls x119000_1 x119001_1 x119002_1 x119003_1 x119004_1 (wrap64 (1 + t125)) t140 t141 t142 t143 t144 t145 t148 _ A40.out).mono ?_); rintro e w60 ⟨v146, rfl, ho0, hb⟩; refine ⟨_, rfl, ?_⟩; have n0_ := Aside0.mk (Kd.Q_elder' zb15_3 (Kd.R_base ho0) hb); have n1_ := Aside0.mk (Kd.Q_elder' zb16_3 (Kd.R_base ho0) hb); have n2_ := Aside0.mk (Kd.R_lower (Kd.R_new' (Kd.R_new' ho0 (Kd.Q_lt zb15_3)) (Kd.Q_lt zb16_3)) (below_size zb14_3)); have n3_ := Aside0.mk (blk_below (g := gb117) (o := .cells #[.int .i64 x118000_1, .int .i64 x118001_1, .int .i64 x118002_1, .int .i64 x118003_1, .int .i64 x118004_1] 24 (0, 0)) zb17_3 hb); have n4_ := Aside0.mk (blk_below (g := gb118) (o := .cells #[.int .i64 x119000_1, .int .i64 x119001_1, .int .i64 x119002_1, .int .i64 x119003_1, .int .i64 x119004_1] 24 (0, 0)) zb18_3 hb); have n5_ := Aside0.mk (blk_below (g := gb126) (o := .cells #[.int .i64 0, .int .i64 0, .int .i64 0, .int .i64 0, .int .i64 0, .slice none 0 0, .int .i64 10] 28 (0, 0)) zb19_3 hb); have n6_ := Aside0.mk (below_step zb14_3 hb); clear HO_5; clear HO_6; clear BK117; clear BK118; clear BK126; clear HB; have HO_5 := n0_; have HO_6 := n1_; have HO147 := n2_; have BK117 := n3_; have BK118 := n4_; have BK126 := n5_; have HB := n6_; clear n0_ n1_ n2_ n3_ n4_ n5_ n6_; (try clear hb); (try clear hb2); (try clear hk); (try clear hi); (try clear ho0); have hcz61_0 := bcq_3 BK126.out 0; have hcz61_1 := bcq_3 BK126.out 1; have hcz61_2 := bcq_3 BK126.out 2; have hcz61_3 := bcq_3 BK126.out 3; have hcz61_4 := bcq_3 BK126.out 4; have hcz61_5 := bcq_3 BK126.out 5; have hcz61_6 := bcq_3 BK126.out 6; have hfz61_0 := blk_frozen BK126.out 0; have hfz61_1 := blk_frozen BK126.out 1; have hfz61_2 := blk_frozen BK126.out 2; have hfz61_3 := blk_frozen BK126.out 3; have hfz61_4 := blk_frozen BK126.out 4; have hfz61_5 := blk_frozen BK126.out 5; have hfz61_6 := blk_frozen BK126.out 6; obtain ⟨Ao62, co62, eo62⟩ := Kd.R_slice HO147.out; subst eo62))
        go_roundg k1
        case measure => have := HK1.out; omega
        case rel => exact ⟨(x5_1), (x6_1), (wrap64 (x7_1 + 1)), (x118000_1), (x118001_1), (x118002_1), (x118003_1), (x118004_1), (x119000_1), (x119001_1), (x119002_1), (x119003_1), (x119004_1), zb5_3, H', ⟨by have := HK1.out; omega⟩, ⟨by (with_reducible repeat (first | apply Kd.Q_alloc | apply Kd.Q_drewN | apply Kd.Q_drew)); exact Kd.Q_mono (Kd.Q_far (p := ⟨gb126, 6, none⟩) (Kd.Q_far (p := ⟨gb126, 5, none⟩) (Kd.Q_far (p := ⟨gb126, 4, none⟩) (Kd.Q_far (p := ⟨gb126, 3, none⟩) (Kd.Q_far (p := ⟨gb126, 2, none⟩) (Kd.Q_far (p := ⟨gb126, 1, none⟩) (Kd.Q_far (p := ⟨gb126, 0, none⟩) (Kd.Q_types HO_5.out BK126.out (by decide)) (fun _ hk => hk.2) (.int .i64 t140)) (fun _ hk => hk.2) (.int .i64 t141)) (fun _ hk => hk.2) (.int .i64 t142)) (fun _ hk => hk.2) (.int .i64 t143)) (fun _ hk => hk.2) (.int .i64 t144)) (fun _ hk => hk.2) (.slice Ao62 t145.length co62)) (fun _ hk => hk.2) (.int .i64 t148)) (fun _ hk => hk.1.1)⟩, ⟨by (with_reducible repeat (first | apply Kd.Q_alloc | apply Kd.Q_drewN | apply Kd.Q_drew)); exact Kd.Q_mono (Kd.Q_far (p := ⟨gb126, 6, none⟩) (Kd.Q_far (p := ⟨gb126, 5, none⟩) (Kd.Q_far (p := ⟨gb126, 4, none⟩) (Kd.Q_far (p := ⟨gb126, 3, none⟩) (Kd.Q_far (p := ⟨gb126, 2, none⟩) (Kd.Q_far (p := ⟨gb126, 1, none⟩) (Kd.Q_far (p := ⟨gb126, 0, none⟩) (Kd.Q_types HO_6.out BK126.out (by decide)) (fun _ hk => hk.2) (.int .i64 t140)) (fun _ hk => hk.2) (.int .i64 t141)) (fun _ hk => hk.2) (.int .i64 t142)) (fun _ hk => hk.2) (.int .i64 t143)) (fun _ hk => hk.2) (.int .i64 t144)) (fun _ hk => hk.2) (.slice Ao62 t145.length co62)) (fun _ hk => hk.2) (.int .i64 t148)) (fun _ hk => hk.1.1)⟩, ⟨by (with_reducible repeat (first | refine blk_drewN ?_ _ | refine blk_drew ?_ | refine blk_alloc ?_ _)); refine blk_far ?_ NB117_126.out _; (with_reducible repeat (first | refine blk_drewN ?_ _ | refine blk_drew ?_ | refine blk_alloc ?_ _)); refine blk_far ?_ NB117_126.out _; (with_reducible repeat (first | refine blk_drewN ?_ _ | refine blk_drew ?_ | refine blk_alloc ?_ _)); refine blk_far ?_ NB117_126.out _; (with_reducible repeat (first | refine blk_drewN ?_ _ | refine blk_drew ?_ | refine blk_alloc ?_ _)); refine blk_far ?_ NB117_126.out _; (with_reducible repeat (first | refine blk_drewN ?_ _ | refine blk_drew ?_ | refine blk_alloc ?_ _)); refine blk_far ?_ NB117_126.out _; (with_reducible repeat (first | refine blk_drewN ?_ _ | refine blk_drew ?_ | refine blk_alloc ?_ _)); refine blk_far ?_ NB117_126.out _; (with_reducible repeat (first | refine blk_drewN ?_ _ | refine blk_drew ?_ | refine blk_alloc ?_ _)); refine blk_far ?_ NB117_126.out _; (with_reducible repeat (first | refine blk_drewN ?_ _ | refine blk_drew ?_ | refine blk_alloc ?_ _)); exact BK117.out⟩, ⟨by (with_reducible repeat (first | refine blk_drewN ?_ _ | refine blk_drew ?_ | refine blk_alloc ?_ _)); refine blk_far ?_ NB118_126.out _; (with_reducible repeat (first | refine blk_drewN ?_ _ | refine blk_drew ?_ | refine blk_alloc ?_ _)); refine blk_far ?_ NB118_126.out _; (with_reducible repeat (first | refine blk_drewN ?_ _ | refine blk_drew ?_ | refine blk_alloc ?_ _)); refine blk_far ?_ NB118_126.out _; (with_reducible repeat (first | refine blk_drewN ?_ _ | refine blk_drew ?_ | refine blk_alloc ?_ _)); refine blk_far ?_ NB118_126.out _; (with_reducible repeat (first | refine blk_drewN ?_ _ | refine blk_drew ?_ | refine blk_alloc ?_ _)); refine blk_far ?_ NB118_126.out _; (with_reducible repeat (first | refine blk_drewN ?_ _ | refine blk_drew ?_ | refine blk_alloc ?_ _)); refine blk_far ?_ NB118_126.out _; (with_reducible repeat (first | refine blk_drewN ?_ _ | refine blk_drew ?_ | refine blk_alloc ?_ _)); refine blk_far ?_ NB118_126.out _; (with_reducible repeat (first | refine blk_drewN ?_ _ | refine blk_drew ?_ | refine blk_alloc ?_ _)); exact BK118.out⟩, ⟨by repeat (first | (with_reducible first | exact HB.out | apply below_alloc | apply pw_below_drewN | apply below_drew1 | refine below_set ?_ GE117.out | refine below_set ?_ GE118.out | refine below_set ?_ GE126.out) | exact HB.out)⟩⟩
      ·
       rw [if_neg c39] at H
       have c39b0 : (t127 == 1) = false := beq_eq_false_iff_ne.mpr c39
       have c39b1 : (t127 != 1) = true := bne_iff_ne.mpr c39
       by_cases c63 : t127 = 2
       ·
        rw [if_pos c63] at H
        have c63b0 : (t127 == 2) = true := beq_iff_eq.mpr c63
        have c63b1 : (t127 != 2) = false := bne_eq_false_iff_eq.mpr c63
        clear c63
        by_cases c64 : (x5_1.length : Int) > 0
        ·
         rw [if_pos c64] at H
         have c64b0 : decide (0 < (x5_1.length : Int)) = true := decide_eq_true c64
         have c64b1 : decide (0 < x5_1.length) = true := decide_eq_true (by omega)
         clear c64
         by_cases c65 : 0 < (x5_1.length : Int)
         ·
          rw [if_pos c65] at H
          have c65b0 : decide (0 < (x5_1.length : Int)) = true := decide_eq_true c65
          have c65b1 : decide (0 < x5_1.length) = true := decide_eq_true (by omega)
          clear c65
          replace H := Option.bind_eq_some_iff.mp H
          obtain ⟨⟨t153, t154, t155, t156, t157, t158, t161⟩, A660, H⟩ := H
          replace H : (if 1 ≤ (x5_1.length : Int) then (laws_FnTwo.l0 k1 l0 (x5_1.drop (1 : Int).toNat) x6_1 (wrap64 (x7_1 + 1)) x118000_1 x118001_1 x118002_1 x118003_1 x118004_1 t153 t154 t155 t156 t157) else (none)) = some r := H
          have A66 := Aside0.mk A660
          clear A660
          by_cases c67 : 1 ≤ (x5_1.length : Int)
          ·
           rw [if_pos c67] at H
           have c67b0 := eq_true c67
           have c67b1 : decide (1 ≤ (x5_1.length : Int)) = true := decide_eq_true c67
           clear c67
           obtain ⟨y162, hy162⟩ : ∃ y_ : List (S32), y_ = (x5_1.drop (1 : Int).toNat) := ⟨_, rfl⟩
           replace H : (laws_FnTwo.l0 k1 l0 y162 x6_1 (wrap64 (x7_1 + 1)) x118000_1 x118001_1 x118002_1 x118003_1 x118004_1 t153 t154 t155 t156 t157) = some r := by first | (rw [hy162]; with_reducible exact H) | (have H2_ := (Option.bind_some _ _).symm.trans H; rw [hy162]; with_reducible exact H2_) | (have H2_ := (Option.bind_some _ _).symm.trans H; with_reducible exact H2_) | with_reducible exact H | (rw [hy162]; exact H) | exact H
           have Ny162 := Aside0.mk hy162
           clear hy162
           have H' := Aside0.mk H
           clear H
           try go_wp2_with (first | ((with_reducible refine gate_callee (f := 4) rfl ?_); refine goesL_ (some 27) rfl rfl Try.func4 (by kernel_rfl) rfl #[.slice A0 l0.length c0, .int .i64 (wrap64 (2 * x7_1)), .int .i64 4] rfl zb6_3 ?_; (with_reducible refine (laws_lwAt.calls _ _ l0 (wrap64 (2 * x7_1)) 4 t125 _ ?side1 ?side2 A13.out).mono ?_); (case side1 => repeat (first | exact (Kd.C_below HR0.out HB.out) | (with_reducible refine Kd.C_alloc ?_ _) | (with_reducible refine Kd.C_drewN ?_ _) | (with_reducible refine Kd.C_drew ?_))); (case side2 => exact HC0.out); rintro e w' ⟨rfl, ⟨nd, rfl⟩⟩; refine ⟨_, rfl, ?_⟩; (try (rw [drewN_self wr]; generalize hq_ : World.drewN wr _ = wr; have n0_ : Aside0 (Kd.Q k32 32 wr w.heap.size (fun k_ => some k_ ≠ (u6 : Value).ownBlock) u5 x5_1) := ⟨by rw [← hq_]; exact zb7_3⟩; have n1_ : Aside0 (Kd.Q k32 32 wr w.heap.size (fun k_ => some k_ ≠ (u5 : Value).ownBlock) u6 x6_1) := ⟨by rw [← hq_]; exact zb8_3⟩; have n2_ : Aside0 (wr.heap[gb117]? = some (.cells #[.int .i64 x118000_1, .int .i64 x118001_1, .int .i64 x118002_1, .int .i64 x118003_1, .int .i64 x118004_1] 24 (0, 0))) := ⟨by rw [← hq_]; exact zb1_3⟩; have n3_ : Aside0 (wr.heap[gb118]? = some (.cells #[.int .i64 x119000_1, .int .i64 x119001_1, .int .i64 x119002_1, .int .i64 x119003_1, .int .i64 x119004_1] 24 (0, 0))) := ⟨by rw [← hq_]; exact zb4_3⟩; have n4_ : Aside0 (Below w.heap.size w wr) := ⟨by rw [← hq_]; exact zb3_3⟩; clear HO_5 HO_6 BK117 BK118 HB hq_; have HO_5 := n0_; have HO_6 := n1_; have BK117 := n2_; have BK118 := n3_; have HB := n4_; clear n0_ n1_ n2_ n3_ n4_))) | ((with_reducible refine gate_dst (N := 9) rfl ?_); refine box_event ?hg (N := 9) ?hd (cs := #[.int .i64 0, .int .i64 0, .int .i64 0, .int .i64 0, .int .i64 0, .slice none 0 0, .int .i64 0]) (t := 28) ?hr ?_; (case hd => rfl); (case hg => rfl); (case hr => first | (go_simp; done) | (go_simp; rfl)); intro gb126 hg w68 hbox hb; have n0_ := Aside0.mk (Kd.Q_below zb7_3 hb); have n1_ := Aside0.mk (Kd.Q_below zb8_3 hb); have n2_ := Aside0.mk (blk_below (g := gb117) (o := .cells #[.int .i64 x118000_1, .int .i64 x118001_1, .int .i64 x118002_1, .int .i64 x118003_1, .int .i64 x118004_1] 24 (0, 0)) zb1_3 hb); have n3_ := Aside0.mk (blk_below (g := gb118) (o := .cells #[.int .i64 x119000_1, .int .i64 x119001_1, .int .i64 x119002_1, .int .i64 x119003_1, .int .i64 x119004_1] 24 (0, 0)) zb4_3 hb); have n4_ := Aside0.mk (below_step zb3_3 hb); have n5_ := Aside0.mk (hbox); have n6_ := Aside0.mk ((zb9_3 : w.heap.size ≤ gb126)); have n7_ := Aside0.mk ((zb9_3 : w.heap.size ≤ gb126)); have n8_ := Aside0.mk ((zb10_3 : gb117 ≠ gb126)); have n9_ := Aside0.mk ((zb11_3 : gb126 ≠ gb117)); have n10_ := Aside0.mk ((zb12_3 : gb118 ≠ gb126)); have n11_ := Aside0.mk ((zb13_3 : gb126 ≠ gb118)); clear HO_5; clear HO_6; clear BK117; clear BK118; clear HB; have HO_5 := n0_; have HO_6 := n1_; have BK117 := n2_; have BK118 := n3_; have HB := n4_; have BK126 := n5_; have GW126 := n6_; have GE126 := n7_; have NB117_126 := n8_; have NB126_117 := n9_; have NB118_126 := n10_; have NB126_118 := n11_; clear n0_ n1_ n2_ n3_ n4_ n5_ n6_ n7_ n8_ n9_ n10_ n11_; clear hb hbox hg; have hnb69 := NB126_117.out; have hnc69 := NB117_126.out; have hnb70 := NB126_118.out; have hnc70 := NB118_126.out; have hcz71_0 := bcq_3 BK126.out 0; have hcz71_1 := bcq_3 BK126.out 1; have hcz71_2 := bcq_3 BK126.out 2; have hcz71_3 := bcq_3 BK126.out 3; have hcz71_4 := bcq_3 BK126.out 4; have hcz71_5 := bcq_3 BK126.out 5; have hcz71_6 := bcq_3 BK126.out 6; have hfz71_0 := blk_frozen BK126.out 0; have hfz71_1 := blk_frozen BK126.out 1; have hfz71_2 := blk_frozen BK126.out 2; have hfz71_3 := blk_frozen BK126.out 3; have hfz71_4 := blk_frozen BK126.out 4; have hfz71_5 := blk_frozen BK126.out 5; have hfz71_6 := blk_frozen BK126.out 6) | ((with_reducible refine gate_callee (f := 4) rfl ?_); refine goesL_ (some 34) rfl rfl Try.func4 (by kernel_rfl) rfl #[.slice A0 l0.length c0, .int .i64 (wrap64 ((wrap64 (2 * x7_1)) + 1)), .int .i64 4] rfl zb6_3 ?_; (with_reducible refine (laws_lwAt.calls _ _ l0 (wrap64 ((wrap64 (2 * x7_1)) + 1)) 4 t127 _ ?side1 ?side2 A14.out).mono ?_); (case side1 => exact Kd.C_below HR0.out zb14_3); (case side2 => exact HC0.out); rintro e w' ⟨rfl, ⟨nd, rfl⟩⟩; refine ⟨_, rfl, ?_⟩; obtain ⟨Ao72, co72, eo72, _⟩ := Kd.Q_slice HO_5.out; subst eo72))
           have n0_ : Aside0 (Kd.Q k32 32 (((((((w68.setCell ⟨gb126, 0, none⟩ (.int .i64 0)).setCell ⟨gb126, 1, none⟩ (.int .i64 0)).setCell ⟨gb126, 2, none⟩ (.int .i64 0)).setCell ⟨gb126, 3, none⟩ (.int .i64 0)).setCell ⟨gb126, 4, none⟩ (.int .i64 0)).setCell ⟨gb126, 5, none⟩ (.slice none 0 0)).setCell ⟨gb126, 6, none⟩ (.int .i64 10)) w.heap.size (fun k_ => some k_ ≠ (u6 : Value).ownBlock) (.slice Ao72 x5_1.length co72) x5_1) := ⟨by (with_reducible repeat (first | apply Kd.Q_alloc | apply Kd.Q_drewN | apply Kd.Q_drew)); exact Kd.Q_mono (Kd.Q_far (p := ⟨gb126, 6, none⟩) (Kd.Q_far (p := ⟨gb126, 5, none⟩) (Kd.Q_far (p := ⟨gb126, 4, none⟩) (Kd.Q_far (p := ⟨gb126, 3, none⟩) (Kd.Q_far (p := ⟨gb126, 2, none⟩) (Kd.Q_far (p := ⟨gb126, 1, none⟩) (Kd.Q_far (p := ⟨gb126, 0, none⟩) (Kd.Q_types HO_5.out BK126.out (by decide)) (fun _ hk => hk.2) (.int .i64 0)) (fun _ hk => hk.2) (.int .i64 0)) (fun _ hk => hk.2) (.int .i64 0)) (fun _ hk => hk.2) (.int .i64 0)) (fun _ hk => hk.2) (.int .i64 0)) (fun _ hk => hk.2) (.slice none 0 0)) (fun _ hk => hk.2) (.int .i64 10)) (fun _ hk => hk.1)⟩
           have n1_ : Aside0 (Kd.Q k32 32 (((((((w68.setCell ⟨gb126, 0, none⟩ (.int .i64 0)).setCell ⟨gb126, 1, none⟩ (.int .i64 0)).setCell ⟨gb126, 2, none⟩ (.int .i64 0)).setCell ⟨gb126, 3, none⟩ (.int .i64 0)).setCell ⟨gb126, 4, none⟩ (.int .i64 0)).setCell ⟨gb126, 5, none⟩ (.slice none 0 0)).setCell ⟨gb126, 6, none⟩ (.int .i64 10)) w.heap.size (fun k_ => some k_ ≠ (.slice Ao72 x5_1.length co72 : Value).ownBlock) u6 x6_1) := ⟨by (with_reducible repeat (first | apply Kd.Q_alloc | apply Kd.Q_drewN | apply Kd.Q_drew)); exact Kd.Q_mono (Kd.Q_far (p := ⟨gb126, 6, none⟩) (Kd.Q_far (p := ⟨gb126, 5, none⟩) (Kd.Q_far (p := ⟨gb126, 4, none⟩) (Kd.Q_far (p := ⟨gb126, 3, none⟩) (Kd.Q_far (p := ⟨gb126, 2, none⟩) (Kd.Q_far (p := ⟨gb126, 1, none⟩) (Kd.Q_far (p := ⟨gb126, 0, none⟩) (Kd.Q_types HO_6.out BK126.out (by decide)) (fun _ hk => hk.2) (.int .i64 0)) (fun _ hk => hk.2) (.int .i64 0)) (fun _ hk => hk.2) (.int .i64 0)) (fun _ hk => hk.2) (.int .i64 0)) (fun _ hk => hk.2) (.int .i64 0)) (fun _ hk => hk.2) (.slice none 0 0)) (fun _ hk => hk.2) (.int .i64 10)) (fun _ hk => hk.1)⟩
           have n2_ : Aside0 ((((((((w68.setCell ⟨gb126, 0, none⟩ (.int .i64 0)).setCell ⟨gb126, 1, none⟩ (.int .i64 0)).setCell ⟨gb126, 2, none⟩ (.int .i64 0)).setCell ⟨gb126, 3, none⟩ (.int .i64 0)).setCell ⟨gb126, 4, none⟩ (.int .i64 0)).setCell ⟨gb126, 5, none⟩ (.slice none 0 0)).setCell ⟨gb126, 6, none⟩ (.int .i64 10)).heap[gb117]? = some (.cells #[.int .i64 x118000_1, .int .i64 x118001_1, .int .i64 x118002_1, .int .i64 x118003_1, .int .i64 x118004_1] 24 (0, 0))) := ⟨by (with_reducible repeat (first | refine blk_drewN ?_ _ | refine blk_drew ?_ | refine blk_alloc ?_ _)); refine blk_far ?_ NB117_126.out _; (with_reducible repeat (first | refine blk_drewN ?_ _ | refine blk_drew ?_ | refine blk_alloc ?_ _)); refine blk_far ?_ NB117_126.out _; (with_reducible repeat (first | refine blk_drewN ?_ _ | refine blk_drew ?_ | refine blk_alloc ?_ _)); refine blk_far ?_ NB117_126.out _; (with_reducible repeat (first | refine blk_drewN ?_ _ | refine blk_drew ?_ | refine blk_alloc ?_ _)); refine blk_far ?_ NB117_126.out _; (with_reducible repeat (first | refine blk_drewN ?_ _ | refine blk_drew ?_ | refine blk_alloc ?_ _)); refine blk_far ?_ NB117_126.out _; (with_reducible repeat (first | refine blk_drewN ?_ _ | refine blk_drew ?_ | refine blk_alloc ?_ _)); refine blk_far ?_ NB117_126.out _; (with_reducible repeat (first | refine blk_drewN ?_ _ | refine blk_drew ?_ | refine blk_alloc ?_ _)); refine blk_far ?_ NB117_126.out _; (with_reducible repeat (first | refine blk_drewN ?_ _ | refine blk_drew ?_ | refine blk_alloc ?_ _)); exact BK117.out⟩
           have n3_ : Aside0 ((((((((w68.setCell ⟨gb126, 0, none⟩ (.int .i64 0)).setCell ⟨gb126, 1, none⟩ (.int .i64 0)).setCell ⟨gb126, 2, none⟩ (.int .i64 0)).setCell ⟨gb126, 3, none⟩ (.int .i64 0)).setCell ⟨gb126, 4, none⟩ (.int .i64 0)).setCell ⟨gb126, 5, none⟩ (.slice none 0 0)).setCell ⟨gb126, 6, none⟩ (.int .i64 10)).heap[gb118]? = some (.cells #[.int .i64 x119000_1, .int .i64 x119001_1, .int .i64 x119002_1, .int .i64 x119003_1, .int .i64 x119004_1] 24 (0, 0))) := ⟨by (with_reducible repeat (first | refine blk_drewN ?_ _ | refine blk_drew ?_ | refine blk_alloc ?_ _)); refine blk_far ?_ NB118_126.out _; (with_reducible repeat (first | refine blk_drewN ?_ _ | refine blk_drew ?_ | refine blk_alloc ?_ _)); refine blk_far ?_ NB118_126.out _; (with_reducible repeat (first | refine blk_drewN ?_ _ | refine blk_drew ?_ | refine blk_alloc ?_ _)); refine blk_far ?_ NB118_126.out _; (with_reducible repeat (first | refine blk_drewN ?_ _ | refine blk_drew ?_ | refine blk_alloc ?_ _)); refine blk_far ?_ NB118_126.out _; (with_reducible repeat (first | refine blk_drewN ?_ _ | refine blk_drew ?_ | refine blk_alloc ?_ _)); refine blk_far ?_ NB118_126.out _; (with_reducible repeat (first | refine blk_drewN ?_ _ | refine blk_drew ?_ | refine blk_alloc ?_ _)); refine blk_far ?_ NB118_126.out _; (with_reducible repeat (first | refine blk_drewN ?_ _ | refine blk_drew ?_ | refine blk_alloc ?_ _)); refine blk_far ?_ NB118_126.out _; (with_reducible repeat (first | refine blk_drewN ?_ _ | refine blk_drew ?_ | refine blk_alloc ?_ _)); exact BK118.out⟩
           have n4_ : Aside0 ((((((((w68.setCell ⟨gb126, 0, none⟩ (.int .i64 0)).setCell ⟨gb126, 1, none⟩ (.int .i64 0)).setCell ⟨gb126, 2, none⟩ (.int .i64 0)).setCell ⟨gb126, 3, none⟩ (.int .i64 0)).setCell ⟨gb126, 4, none⟩ (.int .i64 0)).setCell ⟨gb126, 5, none⟩ (.slice none 0 0)).setCell ⟨gb126, 6, none⟩ (.int .i64 10)).heap[gb126]? = some (.cells #[.int .i64 0, .int .i64 0, .int .i64 0, .int .i64 0, .int .i64 0, .slice none 0 0, .int .i64 10] 28 (0, 0))) := ⟨by (with_reducible repeat (first | refine blk_drewN ?_ _ | refine blk_drew ?_ | refine blk_alloc ?_ _)); refine blk_put (cs := #[.int .i64 0, .int .i64 0, .int .i64 0, .int .i64 0, .int .i64 0, .slice none 0 0, .int .i64 0]) ?_ 6 _ rfl; (with_reducible repeat (first | refine blk_drewN ?_ _ | refine blk_drew ?_ | refine blk_alloc ?_ _)); refine blk_put (cs := #[.int .i64 0, .int .i64 0, .int .i64 0, .int .i64 0, .int .i64 0, .slice none 0 0, .int .i64 0]) ?_ 5 _ rfl; (with_reducible repeat (first | refine blk_drewN ?_ _ | refine blk_drew ?_ | refine blk_alloc ?_ _)); refine blk_put (cs := #[.int .i64 0, .int .i64 0, .int .i64 0, .int .i64 0, .int .i64 0, .slice none 0 0, .int .i64 0]) ?_ 4 _ rfl; (with_reducible repeat (first | refine blk_drewN ?_ _ | refine blk_drew ?_ | refine blk_alloc ?_ _)); refine blk_put (cs := #[.int .i64 0, .int .i64 0, .int .i64 0, .int .i64 0, .int .i64 0, .slice none 0 0, .int .i64 0]) ?_ 3 _ rfl; (with_reducible repeat (first | refine blk_drewN ?_ _ | refine blk_drew ?_ | refine blk_alloc ?_ _)); refine blk_put (cs := #[.int .i64 0, .int .i64 0, .int .i64 0, .int .i64 0, .int .i64 0, .slice none 0 0, .int .i64 0]) ?_ 2 _ rfl; (with_reducible repeat (first | refine blk_drewN ?_ _ | refine blk_drew ?_ | refine blk_alloc ?_ _)); refine blk_put (cs := #[.int .i64 0, .int .i64 0, .int .i64 0, .int .i64 0, .int .i64 0, .slice none 0 0, .int .i64 0]) ?_ 1 _ rfl; (with_reducible repeat (first | refine blk_drewN ?_ _ | refine blk_drew ?_ | refine blk_alloc ?_ _)); refine blk_put (cs := #[.int .i64 0, .int .i64 0, .int .i64 0, .int .i64 0, .int .i64 0, .slice none 0 0, .int .i64 0]) ?_ 0 _ rfl; (with_reducible repeat (first | refine blk_drewN ?_ _ | refine blk_drew ?_ | refine blk_alloc ?_ _)); exact BK126.out⟩
           have n5_ : Aside0 (Below w.heap.size w (((((((w68.setCell ⟨gb126, 0, none⟩ (.int .i64 0)).setCell ⟨gb126, 1, none⟩ (.int .i64 0)).setCell ⟨gb126, 2, none⟩ (.int .i64 0)).setCell ⟨gb126, 3, none⟩ (.int .i64 0)).setCell ⟨gb126, 4, none⟩ (.int .i64 0)).setCell ⟨gb126, 5, none⟩ (.slice none 0 0)).setCell ⟨gb126, 6, none⟩ (.int .i64 10))) := ⟨by repeat (first | (with_reducible first | exact HB.out | apply below_alloc | apply pw_below_drewN | apply below_drew1 | refine below_set ?_ GE117.out | refine below_set ?_ GE118.out | refine below_set ?_ GE126.out) | exact HB.out)⟩
           (try clear HO_5)
           (try clear HO_6)
           (try clear BK117)
           (try clear BK118)
           (try clear BK126)
           (try clear HB)
           generalize (((((((w68.setCell ⟨gb126, 0, none⟩ (.int .i64 0)).setCell ⟨gb126, 1, none⟩ (.int .i64 0)).setCell ⟨gb126, 2, none⟩ (.int .i64 0)).setCell ⟨gb126, 3, none⟩ (.int .i64 0)).setCell ⟨gb126, 4, none⟩ (.int .i64 0)).setCell ⟨gb126, 5, none⟩ (.slice none 0 0)).setCell ⟨gb126, 6, none⟩ (.int .i64 10)) = w73 at n0_ n1_ n2_ n3_ n4_ n5_ ⊢
           have HO_5 := n0_
           have HO_6 := n1_
           have BK117 := n2_
           have BK118 := n3_
           have BK126 := n4_
           have HB := n5_
           clear n0_ n1_ n2_ n3_ n4_ n5_
           (try (rw [drewN_self w73]; generalize hq_ : World.drewN w73 _ = w73; have n0_ : Aside0 (Kd.Q k32 32 w73 w.heap.size (fun k_ => some k_ ≠ (u6 : Value).ownBlock) (.slice Ao72 x5_1.length co72) x5_1) := ⟨by rw [← hq_]; exact zb7_3⟩; have n1_ : Aside0 (Kd.Q k32 32 w73 w.heap.size (fun k_ => some k_ ≠ (.slice Ao72 x5_1.length co72 : Value).ownBlock) u6 x6_1) := ⟨by rw [← hq_]; exact zb8_3⟩; have n2_ : Aside0 (w73.heap[gb117]? = some (.cells #[.int .i64 x118000_1, .int .i64 x118001_1, .int .i64 x118002_1, .int .i64 x118003_1, .int .i64 x118004_1] 24 (0, 0))) := ⟨by rw [← hq_]; exact zb1_3⟩; have n3_ : Aside0 (w73.heap[gb118]? = some (.cells #[.int .i64 x119000_1, .int .i64 x119001_1, .int .i64 x119002_1, .int .i64 x119003_1, .int .i64 x119004_1] 24 (0, 0))) := ⟨by rw [← hq_]; exact zb4_3⟩; have n4_ : Aside0 (w73.heap[gb126]? = some (.cells #[.int .i64 0, .int .i64 0, .int .i64 0, .int .i64 0, .int .i64 0, .slice none 0 0, .int .i64 10] 28 (0, 0))) := ⟨by rw [← hq_]; exact zb20_3⟩; have n5_ : Aside0 (Below w.heap.size w w73) := ⟨by rw [← hq_]; exact zb14_3⟩; clear HO_5 HO_6 BK117 BK118 BK126 HB hq_; have HO_5 := n0_; have HO_6 := n1_; have BK117 := n2_; have BK118 := n3_; have BK126 := n4_; have HB := n5_; clear n0_ n1_ n2_ n3_ n4_ n5_))
           have n0_ := Aside0.mk (Kd.Q_drew HO_5.out)
           have n1_ := Aside0.mk (Kd.Q_drew HO_6.out)
           have n2_ := Aside0.mk (blk_drew BK117.out)
           have n3_ := Aside0.mk (blk_drew BK118.out)
           have n4_ := Aside0.mk (blk_drew BK126.out)
           have n5_ := Aside0.mk (below_drew1 HB.out)
           clear HO_5
           clear HO_6
           clear BK117
           clear BK118
           clear BK126
           clear HB
           have HO_5 := n0_
           have HO_6 := n1_
           have BK117 := n2_
           have BK118 := n3_
           have BK126 := n4_
           have HB := n5_
           clear n0_ n1_ n2_ n3_ n4_ n5_
           have p152 : 0 ≤ (0 : Int) := (by omega)
           have q152 : 0 < (x5_1.length : Int) := of_decide_eq_true zb21_3
           obtain ⟨ad152, e152, hx152_0, hx152_1⟩ := at_T32 (Kd.Q_reads' HO_5.out).2.2 0 p152 q152
           cases e152
           have qi152 : (0 < x5_1.length) = True := eq_true (by omega)
           (try rw [show ((0 : Int)).toNat = 0 from rfl] at hx152_0)
           (try rw [show 0 * 2 = 0 from rfl] at hx152_0)
           (try rw [Addr.add_zero'] at hx152_0)
           (try rw [show ((0 : Int)).toNat = 0 from rfl] at hx152_1)
           (try rw [show 0 * 2 = 0 from rfl] at hx152_1)
           (try rw [Addr.add_zero'] at hx152_1)
           replace p152 := eq_true p152
           replace q152 := eq_true q152
           refine start_ (n := 7) (S := fun w' => w'.cell? ⟨gb118, 0, none⟩ = some (.int .i64 x119000_1) ∧ w'.cell? ⟨gb118, 1, none⟩ = some (.int .i64 x119001_1) ∧ w'.cell? ⟨gb118, 2, none⟩ = some (.int .i64 x119002_1) ∧ w'.cell? ⟨gb118, 3, none⟩ = some (.int .i64 x119003_1) ∧ w'.cell? ⟨gb118, 4, none⟩ = some (.int .i64 x119004_1) ∧ w'.cell? ad152 = some (.int .i64 ((rd_T32 x5_1 0).f0)) ∧ w'.cell? ⟨ad152.block, ad152.off + 1, none⟩ = some (.int .i64 ((rd_T32 x5_1 0).f1))) (ds := [6]) zm0 (by kernel_rfl) rfl rfl ⟨(blk_cell BK118.out 0).trans rfl, (blk_cell BK118.out 1).trans rfl, (blk_cell BK118.out 2).trans rfl, (blk_cell BK118.out 3).trans rfl, (blk_cell BK118.out 4).trans rfl, hx152_0, hx152_1⟩ (fun hHeld => ?_)
           generalize w73.drew = w74 at HO_5 HO_6 BK117 BK118 BK126 HB hx152_0 hx152_1 hHeld ⊢
           refine pure_ (i := 1) (N := some 80) (v := ?_) (a' := ?_) zm1 rfl rfl (by kernel_rfl) (fun _ _ _ h => h) (Or.inl ⟨by rfl, ?_⟩) ?_ ?_
           rotate_left
           ·
            intro w'
            go_simp
            with_reducible rfl
           rotate_left
           ·
            simp only [Act.put, List.setIfInBounds_toArray, List.set_cons_zero, List.set_cons_succ, i64_w, i32_w]
            rfl
           refine pure_ (i := 2) (N := some 81) (v := ?_) (a' := ?_) zm2 rfl rfl (by kernel_rfl) (fun _ _ _ h => h) (Or.inl ⟨by rfl, ?_⟩) ?_ ?_
           rotate_left
           ·
            intro w'
            go_simp
            with_reducible rfl
           rotate_left
           ·
            simp only [Act.put, List.setIfInBounds_toArray, List.set_cons_zero, List.set_cons_succ, i64_w, i32_w]
            rfl
           refine take_ (i := 0) (N := some 79) (v := ?_) (a' := ?_) zm3 rfl rfl (by kernel_rfl) (fun _ _ _ h => h) (Or.inl ⟨by rfl, ?_⟩) hHeld ?_ ?_
           rotate_left
           ·
            rintro w' ⟨s0, s1, s2, s3, s4, s5, s6⟩
            go_simp
            with_reducible rfl
           rotate_left
           ·
            simp only [Act.put, List.setIfInBounds_toArray, List.set_cons_zero, List.set_cons_succ, i64_w, i32_w]
            rfl
           refine take_ (i := 3) (N := some 82) (v := ?_) (a' := ?_) zm4 rfl rfl (by kernel_rfl) (fun _ _ _ h => h) (Or.inl ⟨by rfl, ?_⟩) hHeld ?_ ?_
           rotate_left
           ·
            rintro w' ⟨s0, s1, s2, s3, s4, s5, s6⟩
            go_simp
            with_reducible rfl
           rotate_left
           ·
            simp only [Act.put, List.setIfInBounds_toArray, List.set_cons_zero, List.set_cons_succ, i64_w, i32_w]
            rfl
           refine one_ (i := 4) (N := some 83) zm5 rfl rfl (by kernel_rfl) (by decide) (fun K hK => ?_)
           refine goes_ Try.func6 (by kernel_rfl) rfl #[.agg #[.int .i64 x119000_1, .int .i64 x119001_1, .int .i64 x119002_1, .int .i64 x119003_1, .int .i64 x119004_1], .agg #[.int .i64 ((rd_T32 x5_1 0).f0), .int .i64 ((rd_T32 x5_1 0).f1)]] (by rfl) rfl rfl zb6_3 ?_
           with_reducible refine (impl_HalfHear.calls x119000_1 x119001_1 x119002_1 x119003_1 x119004_1 ((rd_T32 x5_1 0).f0) ((rd_T32 x5_1 0).f1) t153 t154 t155 t156 t157 t158 t161 _ A66.out).mono ?_
           rintro e w75 ⟨v159, rfl, ho0, hb⟩
           have HS5_ := (hb.cell (World.block_lt_of_cell? _ _ (hHeld.2.2.2.2.2.1))).trans (hHeld.2.2.2.2.2.1)
           have HS6_ := (hb.cell (World.block_lt_of_cell? _ _ (hHeld.2.2.2.2.2.2))).trans (hHeld.2.2.2.2.2.2)
           refine ⟨_, rfl, ?_⟩
           have n0_ := Aside0.mk (Kd.Q_elder' zb7_3 (Kd.R_base ho0) hb)
           have n1_ := Aside0.mk (Kd.Q_elder' zb8_3 (Kd.R_base ho0) hb)
           have n2_ := Aside0.mk (Kd.R_lower (Kd.R_new' (Kd.R_new' ho0 (Kd.Q_lt zb7_3)) (Kd.Q_lt zb8_3)) (below_size zb14_3))
           have n3_ := Aside0.mk (blk_below (g := gb117) (o := .cells #[.int .i64 x118000_1, .int .i64 x118001_1, .int .i64 x118002_1, .int .i64 x118003_1, .int .i64 x118004_1] 24 (0, 0)) zb1_3 hb)
           have n4_ := Aside0.mk (blk_below (g := gb118) (o := .cells #[.int .i64 x119000_1, .int .i64 x119001_1, .int .i64 x119002_1, .int .i64 x119003_1, .int .i64 x119004_1] 24 (0, 0)) zb4_3 hb)
           have n5_ := Aside0.mk (blk_below (g := gb126) (o := .cells #[.int .i64 0, .int .i64 0, .int .i64 0, .int .i64 0, .int .i64 0, .slice none 0 0, .int .i64 10] 28 (0, 0)) zb20_3 hb)
           have n6_ := Aside0.mk (below_step zb14_3 hb)
           clear HO_5
           clear HO_6
           clear BK117
           clear BK118
           clear BK126
           clear HB
           have HO_5 := n0_
           have HO_6 := n1_
           have HO160 := n2_
           have BK117 := n3_
           have BK118 := n4_
           have BK126 := n5_
           have HB := n6_
           clear n0_ n1_ n2_ n3_ n4_ n5_ n6_
           (try clear hb)
           (try clear hb2)
           (try clear hk)
           (try clear hi)
           (try clear ho0)
           refine hK.out _ _ ⟨(blk_cell BK118.out 0).trans rfl, (blk_cell BK118.out 1).trans rfl, (blk_cell BK118.out 2).trans rfl, (blk_cell BK118.out 3).trans rfl, (blk_cell BK118.out 4).trans rfl, HS5_, HS6_⟩ (fun hHeld => ?_)
           clear hK K
           refine norm_ (a' := ?_) ?_ ?_
           rotate_left
           ·
            show Act.put _ (some 83) _ = _
            simp only [Act.put, List.setIfInBounds_toArray, List.set_cons_zero, List.set_cons_succ, i64_w, i32_w]
            rfl
           refine pure_ (i := 5) (N := some 84) (v := ?_) (a' := ?_) zm6 rfl rfl (by kernel_rfl) (fun _ _ _ h => h) (Or.inl ⟨by rfl, ?_⟩) ?_ ?_
           rotate_left
           ·
            intro w'
            go_simp
            with_reducible rfl
           rotate_left
           ·
            simp only [Act.put, List.setIfInBounds_toArray, List.set_cons_zero, List.set_cons_succ, i64_w, i32_w]
            rfl
           refine last_ (i := 6) (N := none) zm7 rfl rfl (by kernel_rfl) (by decide) (fun K hK => ?_)
           have hs76 : w75.cell? ⟨gb118, 0, none⟩ = some (.int .i64 x119000_1) := (blk_cell BK118.out 0).trans rfl
           have hfs76 := blk_frozen BK118.out 0
           have hns76_0 := NB117_118.out
           have hns76_2 := NB126_118.out
           have hms76_0 := NB118_117.out
           have hms76_2 := NB118_126.out
           have hs77 : w75.cell? ⟨gb118, 1, none⟩ = some (.int .i64 x119001_1) := (blk_cell BK118.out 1).trans rfl
           have hfs77 := blk_frozen BK118.out 1
           have hns77_0 := NB117_118.out
           have hns77_2 := NB126_118.out
           have hms77_0 := NB118_117.out
           have hms77_2 := NB118_126.out
           have hs78 : w75.cell? ⟨gb118, 2, none⟩ = some (.int .i64 x119002_1) := (blk_cell BK118.out 2).trans rfl
           have hfs78 := blk_frozen BK118.out 2
           have hns78_0 := NB117_118.out
           have hns78_2 := NB126_118.out
           have hms78_0 := NB118_117.out
           have hms78_2 := NB118_126.out
           have hs79 : w75.cell? ⟨gb118, 3, none⟩ = some (.int .i64 x119003_1) := (blk_cell BK118.out 3).trans rfl
           have hfs79 := blk_frozen BK118.out 3
           have hns79_0 := NB117_118.out
           have hns79_2 := NB126_118.out
           have hms79_0 := NB118_117.out
           have hms79_2 := NB118_126.out
           have hs80 : w75.cell? ⟨gb118, 4, none⟩ = some (.int .i64 x119004_1) := (blk_cell BK118.out 4).trans rfl
           have hfs80 := blk_frozen BK118.out 4
           have hns80_0 := NB117_118.out
           have hns80_2 := NB126_118.out
           have hms80_0 := NB118_117.out
           have hms80_2 := NB118_126.out
           refine skip_ (w1 := ?_) (by rfl) rfl ?_ ?_
           rotate_left
           ·
            go_simp
            rfl
           refine hK.out _ _ ?_
           clear hK K
           refine done_ (by kernel_rfl) ?_
           have n0_ : Aside0 (Kd.Q k32 32 (((((w75.setCell ⟨gb118, 0, none⟩ (.int .i64 t153)).setCell ⟨gb118, 1, none⟩ (.int .i64 t154)).setCell ⟨gb118, 2, none⟩ (.int .i64 t155)).setCell ⟨gb118, 3, none⟩ (.int .i64 t156)).setCell ⟨gb118, 4, none⟩ (.int .i64 t157)) w.heap.size (fun k_ => some k_ ≠ (u6 : Value).ownBlock ∧ some k_ ≠ (v159 : Value).ownBlock) (.slice (some ad152) x5_1.length co72) x5_1) := ⟨by (with_reducible repeat (first | apply Kd.Q_alloc | apply Kd.Q_drewN | apply Kd.Q_drew)); exact Kd.Q_mono (Kd.Q_far (p := ⟨gb118, 4, none⟩) (Kd.Q_far (p := ⟨gb118, 3, none⟩) (Kd.Q_far (p := ⟨gb118, 2, none⟩) (Kd.Q_far (p := ⟨gb118, 1, none⟩) (Kd.Q_far (p := ⟨gb118, 0, none⟩) (Kd.Q_types HO_5.out BK118.out (by decide)) (fun _ hk => hk.2) (.int .i64 t153)) (fun _ hk => hk.2) (.int .i64 t154)) (fun _ hk => hk.2) (.int .i64 t155)) (fun _ hk => hk.2) (.int .i64 t156)) (fun _ hk => hk.2) (.int .i64 t157)) (fun _ hk => ⟨hk.1.1, hk.1.2⟩)⟩
           have n1_ : Aside0 (Kd.Q k32 32 (((((w75.setCell ⟨gb118, 0, none⟩ (.int .i64 t153)).setCell ⟨gb118, 1, none⟩ (.int .i64 t154)).setCell ⟨gb118, 2, none⟩ (.int .i64 t155)).setCell ⟨gb118, 3, none⟩ (.int .i64 t156)).setCell ⟨gb118, 4, none⟩ (.int .i64 t157)) w.heap.size (fun k_ => some k_ ≠ (.slice (some ad152) x5_1.length co72 : Value).ownBlock ∧ some k_ ≠ (v159 : Value).ownBlock) u6 x6_1) := ⟨by (with_reducible repeat (first | apply Kd.Q_alloc | apply Kd.Q_drewN | apply Kd.Q_drew)); exact Kd.Q_mono (Kd.Q_far (p := ⟨gb118, 4, none⟩) (Kd.Q_far (p := ⟨gb118, 3, none⟩) (Kd.Q_far (p := ⟨gb118, 2, none⟩) (Kd.Q_far (p := ⟨gb118, 1, none⟩) (Kd.Q_far (p := ⟨gb118, 0, none⟩) (Kd.Q_types HO_6.out BK118.out (by decide)) (fun _ hk => hk.2) (.int .i64 t153)) (fun _ hk => hk.2) (.int .i64 t154)) (fun _ hk => hk.2) (.int .i64 t155)) (fun _ hk => hk.2) (.int .i64 t156)) (fun _ hk => hk.2) (.int .i64 t157)) (fun _ hk => ⟨hk.1.1, hk.1.2⟩)⟩
           have n2_ : Aside0 (Kd.R k32 32 (((((w75.setCell ⟨gb118, 0, none⟩ (.int .i64 t153)).setCell ⟨gb118, 1, none⟩ (.int .i64 t154)).setCell ⟨gb118, 2, none⟩ (.int .i64 t155)).setCell ⟨gb118, 3, none⟩ (.int .i64 t156)).setCell ⟨gb118, 4, none⟩ (.int .i64 t157)) w.heap.size (fun k_ => some k_ ≠ (.slice (some ad152) x5_1.length co72 : Value).ownBlock ∧ some k_ ≠ (u6 : Value).ownBlock) v159 t158) := ⟨by (with_reducible repeat (first | apply Kd.R_alloc | apply Kd.R_drewN | apply Kd.R_drew)); exact Kd.R_mono (Kd.R_far (p := ⟨gb118, 4, none⟩) (Kd.R_far (p := ⟨gb118, 3, none⟩) (Kd.R_far (p := ⟨gb118, 2, none⟩) (Kd.R_far (p := ⟨gb118, 1, none⟩) (Kd.R_far (p := ⟨gb118, 0, none⟩) (Kd.R_types HO160.out BK118.out (by decide)) (fun _ hk => hk.2) (.int .i64 t153)) (fun _ hk => hk.2) (.int .i64 t154)) (fun _ hk => hk.2) (.int .i64 t155)) (fun _ hk => hk.2) (.int .i64 t156)) (fun _ hk => hk.2) (.int .i64 t157)) (fun _ hk => ⟨hk.1.1.2, hk.1.2⟩)⟩
           have n3_ : Aside0 ((((((w75.setCell ⟨gb118, 0, none⟩ (.int .i64 t153)).setCell ⟨gb118, 1, none⟩ (.int .i64 t154)).setCell ⟨gb118, 2, none⟩ (.int .i64 t155)).setCell ⟨gb118, 3, none⟩ (.int .i64 t156)).setCell ⟨gb118, 4, none⟩ (.int .i64 t157)).heap[gb117]? = some (.cells #[.int .i64 x118000_1, .int .i64 x118001_1, .int .i64 x118002_1, .int .i64 x118003_1, .int .i64 x118004_1] 24 (0, 0))) := ⟨by (with_reducible repeat (first | refine blk_drewN ?_ _ | refine blk_drew ?_ | refine blk_alloc ?_ _)); refine blk_far ?_ NB117_118.out _; (with_reducible repeat (first | refine blk_drewN ?_ _ | refine blk_drew ?_ | refine blk_alloc ?_ _)); refine blk_far ?_ NB117_118.out _; (with_reducible repeat (first | refine blk_drewN ?_ _ | refine blk_drew ?_ | refine blk_alloc ?_ _)); refine blk_far ?_ NB117_118.out _; (with_reducible repeat (first | refine blk_drewN ?_ _ | refine blk_drew ?_ | refine blk_alloc ?_ _)); refine blk_far ?_ NB117_118.out _; (with_reducible repeat (first | refine blk_drewN ?_ _ | refine blk_drew ?_ | refine blk_alloc ?_ _)); refine blk_far ?_ NB117_118.out _; (with_reducible repeat (first | refine blk_drewN ?_ _ | refine blk_drew ?_ | refine blk_alloc ?_ _)); exact BK117.out⟩
           have n4_ : Aside0 ((((((w75.setCell ⟨gb118, 0, none⟩ (.int .i64 t153)).setCell ⟨gb118, 1, none⟩ (.int .i64 t154)).setCell ⟨gb118, 2, none⟩ (.int .i64 t155)).setCell ⟨gb118, 3, none⟩ (.int .i64 t156)).setCell ⟨gb118, 4, none⟩ (.int .i64 t157)).heap[gb118]? = some (.cells #[.int .i64 t153, .int .i64 t154, .int .i64 t155, .int .i64 t156, .int .i64 t157] 24 (0, 0))) := ⟨by (with_reducible repeat (first | refine blk_drewN ?_ _ | refine blk_drew ?_ | refine blk_alloc ?_ _)); refine blk_put (cs := #[.int .i64 t153, .int .i64 t154, .int .i64 t155, .int .i64 t156, .int .i64 x119004_1]) ?_ 4 _ rfl; (with_reducible repeat (first | refine blk_drewN ?_ _ | refine blk_drew ?_ | refine blk_alloc ?_ _)); refine blk_put (cs := #[.int .i64 t153, .int .i64 t154, .int .i64 t155, .int .i64 x119003_1, .int .i64 x119004_1]) ?_ 3 _ rfl; (with_reducible repeat (first | refine blk_drewN ?_ _ | refine blk_drew ?_ | refine blk_alloc ?_ _)); refine blk_put (cs := #[.int .i64 t153, .int .i64 t154, .int .i64 x119002_1, .int .i64 x119003_1, .int .i64 x119004_1]) ?_ 2 _ rfl; (with_reducible repeat (first | refine blk_drewN ?_ _ | refine blk_drew ?_ | refine blk_alloc ?_ _)); refine blk_put (cs := #[.int .i64 t153, .int .i64 x119001_1, .int .i64 x119002_1, .int .i64 x119003_1, .int .i64 x119004_1]) ?_ 1 _ rfl; (with_reducible repeat (first | refine blk_drewN ?_ _ | refine blk_drew ?_ | refine blk_alloc ?_ _)); refine blk_put (cs := #[.int .i64 x119000_1, .int .i64 x119001_1, .int .i64 x119002_1, .int .i64 x119003_1, .int .i64 x119004_1]) ?_ 0 _ rfl; (with_reducible repeat (first | refine blk_drewN ?_ _ | refine blk_drew ?_ | refine blk_alloc ?_ _)); exact BK118.out⟩
           have n5_ : Aside0 ((((((w75.setCell ⟨gb118, 0, none⟩ (.int .i64 t153)).setCell ⟨gb118, 1, none⟩ (.int .i64 t154)).setCell ⟨gb118, 2, none⟩ (.int .i64 t155)).setCell ⟨gb118, 3, none⟩ (.int .i64 t156)).setCell ⟨gb118, 4, none⟩ (.int .i64 t157)).heap[gb126]? = some (.cells #[.int .i64 0, .int .i64 0, .int .i64 0, .int .i64 0, .int .i64 0, .slice none 0 0, .int .i64 10] 28 (0, 0))) := ⟨by (with_reducible repeat (first | refine blk_drewN ?_ _ | refine blk_drew ?_ | refine blk_alloc ?_ _)); refine blk_far ?_ NB126_118.out _; (with_reducible repeat (first | refine blk_drewN ?_ _ | refine blk_drew ?_ | refine blk_alloc ?_ _)); refine blk_far ?_ NB126_118.out _; (with_reducible repeat (first | refine blk_drewN ?_ _ | refine blk_drew ?_ | refine blk_alloc ?_ _)); refine blk_far ?_ NB126_118.out _; (with_reducible repeat (first | refine blk_drewN ?_ _ | refine blk_drew ?_ | refine blk_alloc ?_ _)); refine blk_far ?_ NB126_118.out _; (with_reducible repeat (first | refine blk_drewN ?_ _ | refine blk_drew ?_ | refine blk_alloc ?_ _)); refine blk_far ?_ NB126_118.out _; (with_reducible repeat (first | refine blk_drewN ?_ _ | refine blk_drew ?_ | refine blk_alloc ?_ _)); exact BK126.out⟩
           have n6_ : Aside0 (Below w.heap.size w (((((w75.setCell ⟨gb118, 0, none⟩ (.int .i64 t153)).setCell ⟨gb118, 1, none⟩ (.int .i64 t154)).setCell ⟨gb118, 2, none⟩ (.int .i64 t155)).setCell ⟨gb118, 3, none⟩ (.int .i64 t156)).setCell ⟨gb118, 4, none⟩ (.int .i64 t157))) := ⟨by repeat (first | (with_reducible first | exact HB.out | apply below_alloc | apply pw_below_drewN | apply below_drew1 | refine below_set ?_ GE117.out | refine below_set ?_ GE118.out | refine below_set ?_ GE126.out) | exact HB.out)⟩
           (try clear HO_5)
           (try clear HO_6)
           (try clear HO160)
           (try clear BK117)
           (try clear BK118)
           (try clear BK126)
           (try clear HB)
           generalize (((((w75.setCell ⟨gb118, 0, none⟩ (.int .i64 t153)).setCell ⟨gb118, 1, none⟩ (.int .i64 t154)).setCell ⟨gb118, 2, none⟩ (.int .i64 t155)).setCell ⟨gb118, 3, none⟩ (.int .i64 t156)).setCell ⟨gb118, 4, none⟩ (.int .i64 t157)) = w81 at n0_ n1_ n2_ n3_ n4_ n5_ n6_ ⊢
           have HO_5 := n0_
           have HO_6 := n1_
           have HO160 := n2_
           have BK117 := n3_
           have BK118 := n4_
           have BK126 := n5_
           have HB := n6_
           clear n0_ n1_ n2_ n3_ n4_ n5_ n6_
           have q82 : (1 : Int) ≤ ((x5_1.length : Int) : Int) := of_decide_eq_true zb21_3
           obtain ⟨i082, hi082, _, hsz82, _⟩ := info_parts info32
           have hcut82 := cut_from (P := Try.prog) 25 32 .i64 Try.underlying25 hi082 2 hsz82 (some ad152) x5_1.length co72 1 (by omega) q82
           have hr82 := Kd.Q_drop (k := (1 : Int).toNat) HO_5.out (by omega)
           obtain ⟨A82, hA82⟩ : ∃ A1, A1 = (if co72 = (1 : Int).toNat then (some ad152) else ((some ad152) : Option Addr).map (·.add ((1 : Int).toNat * 2))) := ⟨_, rfl⟩
           obtain ⟨c82, hc82⟩ : ∃ c1, c1 = co72 - (1 : Int).toNat := ⟨_, rfl⟩
           have hy82 : y162.length = x5_1.length - (1 : Int).toNat := (by rw [Ny162.out, List.length_drop])
           rw [← Ny162.out] at hr82
           rw [← hy82, ← hA82, ← hc82] at hcut82
           replace hr82 : Kd.Q k32 32 w81 w.heap.size (fun k_ => some k_ ≠ (u6 : Value).ownBlock ∧ some k_ ≠ (v159 : Value).ownBlock) (.slice A82 y162.length c82) y162 := (by rw [hA82, hc82, hy82]; exact hr82)
           have HE82 : Aside0 ((Value.slice A82 y162.length c82).ownBlock = (.slice (some ad152) x5_1.length co72 : Value).ownBlock) := ⟨by rw [hA82]; split <;> (cases ((some ad152) : Option Addr) <;> rfl)⟩
           clear hy82 hi082 hsz82 HO_5 hA82 hc82
           have HO164 := Aside0.mk hr82
           clear hr82
           replace q82 := eq_true q82
           have n_ := Aside0.mk (Kd.Q_mono (ok' := fun k_ => (some k_ ≠ (.slice A82 y162.length c82 : Value).ownBlock ∧ some k_ ≠ (v159 : Value).ownBlock)) HO_6.out (fun k_ hk => ⟨(by rw [HE82.out]; exact hk.1), hk.2⟩))
           clear HO_6
           have HO_6 := n_
           clear n_
           have n_ := Aside0.mk (Kd.R_mono (ok' := fun k_ => (some k_ ≠ (.slice A82 y162.length c82 : Value).ownBlock ∧ some k_ ≠ (u6 : Value).ownBlock)) HO160.out (fun k_ hk => ⟨(by rw [HE82.out]; exact hk.1), hk.2⟩))
           clear HO160
           have HO160 := n_
           clear n_
           try go_wp2
           go_roundg k1
           case measure => have := HK1.out; omega
           case rel => exact ⟨(y162), (x6_1), (wrap64 (x7_1 + 1)), (x118000_1), (x118001_1), (x118002_1), (x118003_1), (x118004_1), (t153), (t154), (t155), (t156), (t157), zb5_3, H', ⟨by have := HK1.out; omega⟩, ⟨by (with_reducible repeat (first | apply Kd.Q_alloc | apply Kd.Q_drewN | apply Kd.Q_drew)); exact Kd.Q_mono HO164.out (fun _ hk => hk.1)⟩, ⟨by (with_reducible repeat (first | apply Kd.Q_alloc | apply Kd.Q_drewN | apply Kd.Q_drew)); exact Kd.Q_mono HO_6.out (fun _ hk => hk.1)⟩, ⟨by (with_reducible repeat (first | refine blk_drewN ?_ _ | refine blk_drew ?_ | refine blk_alloc ?_ _)); exact BK117.out⟩, ⟨by (with_reducible repeat (first | refine blk_drewN ?_ _ | refine blk_drew ?_ | refine blk_alloc ?_ _)); exact BK118.out⟩, ⟨by repeat (first | (with_reducible first | exact HB.out | apply below_alloc | apply pw_below_drewN | apply below_drew1 | refine below_set ?_ GE117.out | refine below_set ?_ GE118.out | refine below_set ?_ GE126.out) | exact HB.out)⟩⟩
          ·
           rw [if_neg c67] at H
           exact absurd H (by simp)
         ·
          rw [if_neg c65] at H
          exact absurd H (by simp)
        ·
         rw [if_neg c64] at H
         have c64b0 : decide (0 < (x5_1.length : Int)) = false := decide_eq_false c64
         have c64b1 : decide (0 < x5_1.length) = false := decide_eq_false (by omega)
         clear c64
         have H' := Aside0.mk H
         clear H
         go_wp2_with (first | ((with_reducible refine gate_callee (f := 4) rfl ?_); refine goesL_ (some 27) rfl rfl Try.func4 (by kernel_rfl) rfl #[.slice A0 l0.length c0, .int .i64 (wrap64 (2 * x7_1)), .int .i64 4] rfl zb6_3 ?_; (with_reducible refine (laws_lwAt.calls _ _ l0 (wrap64 (2 * x7_1)) 4 t125 _ ?side1 ?side2 A13.out).mono ?_); (case side1 => repeat (first | exact (Kd.C_below HR0.out HB.out) | (with_reducible refine Kd.C_alloc ?_ _) | (with_reducible refine Kd.C_drewN ?_ _) | (with_reducible refine Kd.C_drew ?_))); (case side2 => exact HC0.out); rintro e w' ⟨rfl, ⟨nd, rfl⟩⟩; refine ⟨_, rfl, ?_⟩; (try (rw [drewN_self wr]; generalize hq_ : World.drewN wr _ = wr; have n0_ : Aside0 (Kd.Q k32 32 wr w.heap.size (fun k_ => some k_ ≠ (u6 : Value).ownBlock) u5 x5_1) := ⟨by rw [← hq_]; exact zb7_3⟩; have n1_ : Aside0 (Kd.Q k32 32 wr w.heap.size (fun k_ => some k_ ≠ (u5 : Value).ownBlock) u6 x6_1) := ⟨by rw [← hq_]; exact zb8_3⟩; have n2_ : Aside0 (wr.heap[gb117]? = some (.cells #[.int .i64 x118000_1, .int .i64 x118001_1, .int .i64 x118002_1, .int .i64 x118003_1, .int .i64 x118004_1] 24 (0, 0))) := ⟨by rw [← hq_]; exact zb1_3⟩; have n3_ : Aside0 (wr.heap[gb118]? = some (.cells #[.int .i64 x119000_1, .int .i64 x119001_1, .int .i64 x119002_1, .int .i64 x119003_1, .int .i64 x119004_1] 24 (0, 0))) := ⟨by rw [← hq_]; exact zb4_3⟩; have n4_ : Aside0 (Below w.heap.size w wr) := ⟨by rw [← hq_]; exact zb3_3⟩; clear HO_5 HO_6 BK117 BK118 HB hq_; have HO_5 := n0_; have HO_6 := n1_; have BK117 := n2_; have BK118 := n3_; have HB := n4_; clear n0_ n1_ n2_ n3_ n4_))) | ((with_reducible refine gate_dst (N := 9) rfl ?_); refine box_event ?hg (N := 9) ?hd (cs := #[.int .i64 0, .int .i64 0, .int .i64 0, .int .i64 0, .int .i64 0, .slice none 0 0, .int .i64 0]) (t := 28) ?hr ?_; (case hd => rfl); (case hg => rfl); (case hr => first | (go_simp; done) | (go_simp; rfl)); intro gb126 hg w83 hbox hb; have n0_ := Aside0.mk (Kd.Q_below zb7_3 hb); have n1_ := Aside0.mk (Kd.Q_below zb8_3 hb); have n2_ := Aside0.mk (blk_below (g := gb117) (o := .cells #[.int .i64 x118000_1, .int .i64 x118001_1, .int .i64 x118002_1, .int .i64 x118003_1, .int .i64 x118004_1] 24 (0, 0)) zb1_3 hb); have n3_ := Aside0.mk (blk_below (g := gb118) (o := .cells #[.int .i64 x119000_1, .int .i64 x119001_1, .int .i64 x119002_1, .int .i64 x119003_1, .int .i64 x119004_1] 24 (0, 0)) zb4_3 hb); have n4_ := Aside0.mk (below_step zb3_3 hb); have n5_ := Aside0.mk (hbox); have n6_ := Aside0.mk ((zb9_3 : w.heap.size ≤ gb126)); have n7_ := Aside0.mk ((zb9_3 : w.heap.size ≤ gb126)); have n8_ := Aside0.mk ((zb10_3 : gb117 ≠ gb126)); have n9_ := Aside0.mk ((zb11_3 : gb126 ≠ gb117)); have n10_ := Aside0.mk ((zb12_3 : gb118 ≠ gb126)); have n11_ := Aside0.mk ((zb13_3 : gb126 ≠ gb118)); clear HO_5; clear HO_6; clear BK117; clear BK118; clear HB; have HO_5 := n0_; have HO_6 := n1_; have BK117 := n2_; have BK118 := n3_; have HB := n4_; have BK126 := n5_; have GW126 := n6_; have GE126 := n7_; have NB117_126 := n8_; have NB126_117 := n9_; have NB118_126 := n10_; have NB126_118 := n11_; clear n0_ n1_ n2_ n3_ n4_ n5_ n6_ n7_ n8_ n9_ n10_ n11_; clear hb hbox hg; have hnb84 := NB126_117.out; have hnc84 := NB117_126.out; have hnb85 := NB126_118.out; have hnc85 := NB118_126.out; have hcz86_0 := bcq_3 BK126.out 0; have hcz86_1 := bcq_3 BK126.out 1; have hcz86_2 := bcq_3 BK126.out 2; have hcz86_3 := bcq_3 BK126.out 3; have hcz86_4 := bcq_3 BK126.out 4; have hcz86_5 := bcq_3 BK126.out 5; have hcz86_6 := bcq_3 BK126.out 6; have hfz86_0 := blk_frozen BK126.out 0; have hfz86_1 := blk_frozen BK126.out 1; have hfz86_2 := blk_frozen BK126.out 2; have hfz86_3 := blk_frozen BK126.out 3; have hfz86_4 := blk_frozen BK126.out 4; have hfz86_5 := blk_frozen BK126.out 5; have hfz86_6 := blk_frozen BK126.out 6) | ((with_reducible refine gate_callee (f := 4) rfl ?_); refine goesL_ (some 34) rfl rfl Try.func4 (by kernel_rfl) rfl #[.slice A0 l0.length c0, .int .i64 (wrap64 ((wrap64 (2 * x7_1)) + 1)), .int .i64 4] rfl zb6_3 ?_; (with_reducible refine (laws_lwAt.calls _ _ l0 (wrap64 ((wrap64 (2 * x7_1)) + 1)) 4 t127 _ ?side1 ?side2 A14.out).mono ?_); (case side1 => exact Kd.C_below HR0.out zb14_3); (case side2 => exact HC0.out); rintro e w' ⟨rfl, ⟨nd, rfl⟩⟩; refine ⟨_, rfl, ?_⟩; obtain ⟨Ao87, co87, eo87, _⟩ := Kd.Q_slice HO_5.out; subst eo87))
         go_roundg k1
         case measure => have := HK1.out; omega
         case rel => exact ⟨(x5_1), (x6_1), (wrap64 (x7_1 + 1)), (x118000_1), (x118001_1), (x118002_1), (x118003_1), (x118004_1), (x119000_1), (x119001_1), (x119002_1), (x119003_1), (x119004_1), zb5_3, H', ⟨by have := HK1.out; omega⟩, ⟨by (with_reducible repeat (first | apply Kd.Q_alloc | apply Kd.Q_drewN | apply Kd.Q_drew)); exact Kd.Q_mono (Kd.Q_far (p := ⟨gb126, 6, none⟩) (Kd.Q_far (p := ⟨gb126, 5, none⟩) (Kd.Q_far (p := ⟨gb126, 4, none⟩) (Kd.Q_far (p := ⟨gb126, 3, none⟩) (Kd.Q_far (p := ⟨gb126, 2, none⟩) (Kd.Q_far (p := ⟨gb126, 1, none⟩) (Kd.Q_far (p := ⟨gb126, 0, none⟩) (Kd.Q_types HO_5.out BK126.out (by decide)) (fun _ hk => hk.2) (.int .i64 0)) (fun _ hk => hk.2) (.int .i64 0)) (fun _ hk => hk.2) (.int .i64 0)) (fun _ hk => hk.2) (.int .i64 0)) (fun _ hk => hk.2) (.int .i64 0)) (fun _ hk => hk.2) (.slice none 0 0)) (fun _ hk => hk.2) (.int .i64 10)) (fun _ hk => hk.1)⟩, ⟨by (with_reducible repeat (first | apply Kd.Q_alloc | apply Kd.Q_drewN | apply Kd.Q_drew)); exact Kd.Q_mono (Kd.Q_far (p := ⟨gb126, 6, none⟩) (Kd.Q_far (p := ⟨gb126, 5, none⟩) (Kd.Q_far (p := ⟨gb126, 4, none⟩) (Kd.Q_far (p := ⟨gb126, 3, none⟩) (Kd.Q_far (p := ⟨gb126, 2, none⟩) (Kd.Q_far (p := ⟨gb126, 1, none⟩) (Kd.Q_far (p := ⟨gb126, 0, none⟩) (Kd.Q_types HO_6.out BK126.out (by decide)) (fun _ hk => hk.2) (.int .i64 0)) (fun _ hk => hk.2) (.int .i64 0)) (fun _ hk => hk.2) (.int .i64 0)) (fun _ hk => hk.2) (.int .i64 0)) (fun _ hk => hk.2) (.int .i64 0)) (fun _ hk => hk.2) (.slice none 0 0)) (fun _ hk => hk.2) (.int .i64 10)) (fun _ hk => hk.1)⟩, ⟨by (with_reducible repeat (first | refine blk_drewN ?_ _ | refine blk_drew ?_ | refine blk_alloc ?_ _)); refine blk_far ?_ NB117_126.out _; (with_reducible repeat (first | refine blk_drewN ?_ _ | refine blk_drew ?_ | refine blk_alloc ?_ _)); refine blk_far ?_ NB117_126.out _; (with_reducible repeat (first | refine blk_drewN ?_ _ | refine blk_drew ?_ | refine blk_alloc ?_ _)); refine blk_far ?_ NB117_126.out _; (with_reducible repeat (first | refine blk_drewN ?_ _ | refine blk_drew ?_ | refine blk_alloc ?_ _)); refine blk_far ?_ NB117_126.out _; (with_reducible repeat (first | refine blk_drewN ?_ _ | refine blk_drew ?_ | refine blk_alloc ?_ _)); refine blk_far ?_ NB117_126.out _; (with_reducible repeat (first | refine blk_drewN ?_ _ | refine blk_drew ?_ | refine blk_alloc ?_ _)); refine blk_far ?_ NB117_126.out _; (with_reducible repeat (first | refine blk_drewN ?_ _ | refine blk_drew ?_ | refine blk_alloc ?_ _)); refine blk_far ?_ NB117_126.out _; (with_reducible repeat (first | refine blk_drewN ?_ _ | refine blk_drew ?_ | refine blk_alloc ?_ _)); exact BK117.out⟩, ⟨by (with_reducible repeat (first | refine blk_drewN ?_ _ | refine blk_drew ?_ | refine blk_alloc ?_ _)); refine blk_far ?_ NB118_126.out _; (with_reducible repeat (first | refine blk_drewN ?_ _ | refine blk_drew ?_ | refine blk_alloc ?_ _)); refine blk_far ?_ NB118_126.out _; (with_reducible repeat (first | refine blk_drewN ?_ _ | refine blk_drew ?_ | refine blk_alloc ?_ _)); refine blk_far ?_ NB118_126.out _; (with_reducible repeat (first | refine blk_drewN ?_ _ | refine blk_drew ?_ | refine blk_alloc ?_ _)); refine blk_far ?_ NB118_126.out _; (with_reducible repeat (first | refine blk_drewN ?_ _ | refine blk_drew ?_ | refine blk_alloc ?_ _)); refine blk_far ?_ NB118_126.out _; (with_reducible repeat (first | refine blk_drewN ?_ _ | refine blk_drew ?_ | refine blk_alloc ?_ _)); refine blk_far ?_ NB118_126.out _; (with_reducible repeat (first | refine blk_drewN ?_ _ | refine blk_drew ?_ | refine blk_alloc ?_ _)); refine blk_far ?_ NB118_126.out _; (with_reducible repeat (first | refine blk_drewN ?_ _ | refine blk_drew ?_ | refine blk_alloc ?_ _)); exact BK118.out⟩, ⟨by repeat (first | (with_reducible first | exact HB.out | apply below_alloc | apply pw_below_drewN | apply below_drew1 | refine below_set ?_ GE117.out | refine below_set ?_ GE118.out | refine below_set ?_ GE126.out) | exact HB.out)⟩⟩
       ·
        rw [if_neg c63] at H
        have c63b0 : (t127 == 2) = false := beq_eq_false_iff_ne.mpr c63
        have c63b1 : (t127 != 2) = true := bne_iff_ne.mpr c63
        by_cases c88 : (x6_1.length : Int) > 0
        ·
         rw [if_pos c88] at H
         have c88b0 : decide (0 < (x6_1.length : Int)) = true := decide_eq_true c88
         have c88b1 : decide (0 < x6_1.length) = true := decide_eq_true (by omega)
         clear c88
         by_cases c89 : 0 < (x6_1.length : Int)
         ·
          rw [if_pos c89] at H
          have c89b0 : decide (0 < (x6_1.length : Int)) = true := decide_eq_true c89
          have c89b1 : decide (0 < x6_1.length) = true := decide_eq_true (by omega)
          clear c89
          replace H := Option.bind_eq_some_iff.mp H
          obtain ⟨⟨t166, t167, t168, t169, t170, t171, t174⟩, A900, H⟩ := H
          replace H : (if 1 ≤ (x6_1.length : Int) then (laws_FnTwo.l0 k1 l0 x5_1 (x6_1.drop (1 : Int).toNat) (wrap64 (x7_1 + 1)) t166 t167 t168 t169 t170 x119000_1 x119001_1 x119002_1 x119003_1 x119004_1) else (none)) = some r := H
          have A90 := Aside0.mk A900
          clear A900
          by_cases c91 : 1 ≤ (x6_1.length : Int)
          ·
           rw [if_pos c91] at H
           have c91b0 := eq_true c91
           have c91b1 : decide (1 ≤ (x6_1.length : Int)) = true := decide_eq_true c91
           clear c91
           obtain ⟨y175, hy175⟩ : ∃ y_ : List (S32), y_ = (x6_1.drop (1 : Int).toNat) := ⟨_, rfl⟩
           replace H : (laws_FnTwo.l0 k1 l0 x5_1 y175 (wrap64 (x7_1 + 1)) t166 t167 t168 t169 t170 x119000_1 x119001_1 x119002_1 x119003_1 x119004_1) = some r := by first | (rw [hy175]; with_reducible exact H) | (have H2_ := (Option.bind_some _ _).symm.trans H; rw [hy175]; with_reducible exact H2_) | (have H2_ := (Option.bind_some _ _).symm.trans H; with_reducible exact H2_) | with_reducible exact H | (rw [hy175]; exact H) | exact H
           have Ny175 := Aside0.mk hy175
           clear hy175
           have H' := Aside0.mk H
           clear H
           try go_wp2_with (first | ((with_reducible refine gate_callee (f := 4) rfl ?_); refine goesL_ (some 27) rfl rfl Try.func4 (by kernel_rfl) rfl #[.slice A0 l0.length c0, .int .i64 (wrap64 (2 * x7_1)), .int .i64 4] rfl zb6_3 ?_; (with_reducible refine (laws_lwAt.calls _ _ l0 (wrap64 (2 * x7_1)) 4 t125 _ ?side1 ?side2 A13.out).mono ?_); (case side1 => repeat (first | exact (Kd.C_below HR0.out HB.out) | (with_reducible refine Kd.C_alloc ?_ _) | (with_reducible refine Kd.C_drewN ?_ _) | (with_reducible refine Kd.C_drew ?_))); (case side2 => exact HC0.out); rintro e w' ⟨rfl, ⟨nd, rfl⟩⟩; refine ⟨_, rfl, ?_⟩; (try (rw [drewN_self wr]; generalize hq_ : World.drewN wr _ = wr; have n0_ : Aside0 (Kd.Q k32 32 wr w.heap.size (fun k_ => some k_ ≠ (u6 : Value).ownBlock) u5 x5_1) := ⟨by rw [← hq_]; exact zb7_3⟩; have n1_ : Aside0 (Kd.Q k32 32 wr w.heap.size (fun k_ => some k_ ≠ (u5 : Value).ownBlock) u6 x6_1) := ⟨by rw [← hq_]; exact zb8_3⟩; have n2_ : Aside0 (wr.heap[gb117]? = some (.cells #[.int .i64 x118000_1, .int .i64 x118001_1, .int .i64 x118002_1, .int .i64 x118003_1, .int .i64 x118004_1] 24 (0, 0))) := ⟨by rw [← hq_]; exact zb1_3⟩; have n3_ : Aside0 (wr.heap[gb118]? = some (.cells #[.int .i64 x119000_1, .int .i64 x119001_1, .int .i64 x119002_1, .int .i64 x119003_1, .int .i64 x119004_1] 24 (0, 0))) := ⟨by rw [← hq_]; exact zb4_3⟩; have n4_ : Aside0 (Below w.heap.size w wr) := ⟨by rw [← hq_]; exact zb3_3⟩; clear HO_5 HO_6 BK117 BK118 HB hq_; have HO_5 := n0_; have HO_6 := n1_; have BK117 := n2_; have BK118 := n3_; have HB := n4_; clear n0_ n1_ n2_ n3_ n4_))) | ((with_reducible refine gate_dst (N := 9) rfl ?_); refine box_event ?hg (N := 9) ?hd (cs := #[.int .i64 0, .int .i64 0, .int .i64 0, .int .i64 0, .int .i64 0, .slice none 0 0, .int .i64 0]) (t := 28) ?hr ?_; (case hd => rfl); (case hg => rfl); (case hr => first | (go_simp; done) | (go_simp; rfl)); intro gb126 hg w92 hbox hb; have n0_ := Aside0.mk (Kd.Q_below zb7_3 hb); have n1_ := Aside0.mk (Kd.Q_below zb8_3 hb); have n2_ := Aside0.mk (blk_below (g := gb117) (o := .cells #[.int .i64 x118000_1, .int .i64 x118001_1, .int .i64 x118002_1, .int .i64 x118003_1, .int .i64 x118004_1] 24 (0, 0)) zb1_3 hb); have n3_ := Aside0.mk (blk_below (g := gb118) (o := .cells #[.int .i64 x119000_1, .int .i64 x119001_1, .int .i64 x119002_1, .int .i64 x119003_1, .int .i64 x119004_1] 24 (0, 0)) zb4_3 hb); have n4_ := Aside0.mk (below_step zb3_3 hb); have n5_ := Aside0.mk (hbox); have n6_ := Aside0.mk ((zb9_3 : w.heap.size ≤ gb126)); have n7_ := Aside0.mk ((zb9_3 : w.heap.size ≤ gb126)); have n8_ := Aside0.mk ((zb10_3 : gb117 ≠ gb126)); have n9_ := Aside0.mk ((zb11_3 : gb126 ≠ gb117)); have n10_ := Aside0.mk ((zb12_3 : gb118 ≠ gb126)); have n11_ := Aside0.mk ((zb13_3 : gb126 ≠ gb118)); clear HO_5; clear HO_6; clear BK117; clear BK118; clear HB; have HO_5 := n0_; have HO_6 := n1_; have BK117 := n2_; have BK118 := n3_; have HB := n4_; have BK126 := n5_; have GW126 := n6_; have GE126 := n7_; have NB117_126 := n8_; have NB126_117 := n9_; have NB118_126 := n10_; have NB126_118 := n11_; clear n0_ n1_ n2_ n3_ n4_ n5_ n6_ n7_ n8_ n9_ n10_ n11_; clear hb hbox hg; have hnb93 := NB126_117.out; have hnc93 := NB117_126.out; have hnb94 := NB126_118.out; have hnc94 := NB118_126.out; have hcz95_0 := bcq_3 BK126.out 0; have hcz95_1 := bcq_3 BK126.out 1; have hcz95_2 := bcq_3 BK126.out 2; have hcz95_3 := bcq_3 BK126.out 3; have hcz95_4 := bcq_3 BK126.out 4; have hcz95_5 := bcq_3 BK126.out 5; have hcz95_6 := bcq_3 BK126.out 6; have hfz95_0 := blk_frozen BK126.out 0; have hfz95_1 := blk_frozen BK126.out 1; have hfz95_2 := blk_frozen BK126.out 2; have hfz95_3 := blk_frozen BK126.out 3; have hfz95_4 := blk_frozen BK126.out 4; have hfz95_5 := blk_frozen BK126.out 5; have hfz95_6 := blk_frozen BK126.out 6) | ((with_reducible refine gate_callee (f := 4) rfl ?_); refine goesL_ (some 34) rfl rfl Try.func4 (by kernel_rfl) rfl #[.slice A0 l0.length c0, .int .i64 (wrap64 ((wrap64 (2 * x7_1)) + 1)), .int .i64 4] rfl zb6_3 ?_; (with_reducible refine (laws_lwAt.calls _ _ l0 (wrap64 ((wrap64 (2 * x7_1)) + 1)) 4 t127 _ ?side1 ?side2 A14.out).mono ?_); (case side1 => exact Kd.C_below HR0.out zb14_3); (case side2 => exact HC0.out); rintro e w' ⟨rfl, ⟨nd, rfl⟩⟩; refine ⟨_, rfl, ?_⟩; obtain ⟨Ao96, co96, eo96, _⟩ := Kd.Q_slice HO_6.out; subst eo96))
           have n0_ : Aside0 (Kd.Q k32 32 (((((((w92.setCell ⟨gb126, 0, none⟩ (.int .i64 0)).setCell ⟨gb126, 1, none⟩ (.int .i64 0)).setCell ⟨gb126, 2, none⟩ (.int .i64 0)).setCell ⟨gb126, 3, none⟩ (.int .i64 0)).setCell ⟨gb126, 4, none⟩ (.int .i64 0)).setCell ⟨gb126, 5, none⟩ (.slice none 0 0)).setCell ⟨gb126, 6, none⟩ (.int .i64 10)) w.heap.size (fun k_ => some k_ ≠ (.slice Ao96 x6_1.length co96 : Value).ownBlock) u5 x5_1) := ⟨by (with_reducible repeat (first | apply Kd.Q_alloc | apply Kd.Q_drewN | apply Kd.Q_drew)); exact Kd.Q_mono (Kd.Q_far (p := ⟨gb126, 6, none⟩) (Kd.Q_far (p := ⟨gb126, 5, none⟩) (Kd.Q_far (p := ⟨gb126, 4, none⟩) (Kd.Q_far (p := ⟨gb126, 3, none⟩) (Kd.Q_far (p := ⟨gb126, 2, none⟩) (Kd.Q_far (p := ⟨gb126, 1, none⟩) (Kd.Q_far (p := ⟨gb126, 0, none⟩) (Kd.Q_types HO_5.out BK126.out (by decide)) (fun _ hk => hk.2) (.int .i64 0)) (fun _ hk => hk.2) (.int .i64 0)) (fun _ hk => hk.2) (.int .i64 0)) (fun _ hk => hk.2) (.int .i64 0)) (fun _ hk => hk.2) (.int .i64 0)) (fun _ hk => hk.2) (.slice none 0 0)) (fun _ hk => hk.2) (.int .i64 10)) (fun _ hk => hk.1)⟩
           have n1_ : Aside0 (Kd.Q k32 32 (((((((w92.setCell ⟨gb126, 0, none⟩ (.int .i64 0)).setCell ⟨gb126, 1, none⟩ (.int .i64 0)).setCell ⟨gb126, 2, none⟩ (.int .i64 0)).setCell ⟨gb126, 3, none⟩ (.int .i64 0)).setCell ⟨gb126, 4, none⟩ (.int .i64 0)).setCell ⟨gb126, 5, none⟩ (.slice none 0 0)).setCell ⟨gb126, 6, none⟩ (.int .i64 10)) w.heap.size (fun k_ => some k_ ≠ (u5 : Value).ownBlock) (.slice Ao96 x6_1.length co96) x6_1) := ⟨by (with_reducible repeat (first | apply Kd.Q_alloc | apply Kd.Q_drewN | apply Kd.Q_drew)); exact Kd.Q_mono (Kd.Q_far (p := ⟨gb126, 6, none⟩) (Kd.Q_far (p := ⟨gb126, 5, none⟩) (Kd.Q_far (p := ⟨gb126, 4, none⟩) (Kd.Q_far (p := ⟨gb126, 3, none⟩) (Kd.Q_far (p := ⟨gb126, 2, none⟩) (Kd.Q_far (p := ⟨gb126, 1, none⟩) (Kd.Q_far (p := ⟨gb126, 0, none⟩) (Kd.Q_types HO_6.out BK126.out (by decide)) (fun _ hk => hk.2) (.int .i64 0)) (fun _ hk => hk.2) (.int .i64 0)) (fun _ hk => hk.2) (.int .i64 0)) (fun _ hk => hk.2) (.int .i64 0)) (fun _ hk => hk.2) (.int .i64 0)) (fun _ hk => hk.2) (.slice none 0 0)) (fun _ hk => hk.2) (.int .i64 10)) (fun _ hk => hk.1)⟩
           have n2_ : Aside0 ((((((((w92.setCell ⟨gb126, 0, none⟩ (.int .i64 0)).setCell ⟨gb126, 1, none⟩ (.int .i64 0)).setCell ⟨gb126, 2, none⟩ (.int .i64 0)).setCell ⟨gb126, 3, none⟩ (.int .i64 0)).setCell ⟨gb126, 4, none⟩ (.int .i64 0)).setCell ⟨gb126, 5, none⟩ (.slice none 0 0)).setCell ⟨gb126, 6, none⟩ (.int .i64 10)).heap[gb117]? = some (.cells #[.int .i64 x118000_1, .int .i64 x118001_1, .int .i64 x118002_1, .int .i64 x118003_1, .int .i64 x118004_1] 24 (0, 0))) := ⟨by (with_reducible repeat (first | refine blk_drewN ?_ _ | refine blk_drew ?_ | refine blk_alloc ?_ _)); refine blk_far ?_ NB117_126.out _; (with_reducible repeat (first | refine blk_drewN ?_ _ | refine blk_drew ?_ | refine blk_alloc ?_ _)); refine blk_far ?_ NB117_126.out _; (with_reducible repeat (first | refine blk_drewN ?_ _ | refine blk_drew ?_ | refine blk_alloc ?_ _)); refine blk_far ?_ NB117_126.out _; (with_reducible repeat (first | refine blk_drewN ?_ _ | refine blk_drew ?_ | refine blk_alloc ?_ _)); refine blk_far ?_ NB117_126.out _; (with_reducible repeat (first | refine blk_drewN ?_ _ | refine blk_drew ?_ | refine blk_alloc ?_ _)); refine blk_far ?_ NB117_126.out _; (with_reducible repeat (first | refine blk_drewN ?_ _ | refine blk_drew ?_ | refine blk_alloc ?_ _)); refine blk_far ?_ NB117_126.out _; (with_reducible repeat (first | refine blk_drewN ?_ _ | refine blk_drew ?_ | refine blk_alloc ?_ _)); refine blk_far ?_ NB117_126.out _; (with_reducible repeat (first | refine blk_drewN ?_ _ | refine blk_drew ?_ | refine blk_alloc ?_ _)); exact BK117.out⟩
           have n3_ : Aside0 ((((((((w92.setCell ⟨gb126, 0, none⟩ (.int .i64 0)).setCell ⟨gb126, 1, none⟩ (.int .i64 0)).setCell ⟨gb126, 2, none⟩ (.int .i64 0)).setCell ⟨gb126, 3, none⟩ (.int .i64 0)).setCell ⟨gb126, 4, none⟩ (.int .i64 0)).setCell ⟨gb126, 5, none⟩ (.slice none 0 0)).setCell ⟨gb126, 6, none⟩ (.int .i64 10)).heap[gb118]? = some (.cells #[.int .i64 x119000_1, .int .i64 x119001_1, .int .i64 x119002_1, .int .i64 x119003_1, .int .i64 x119004_1] 24 (0, 0))) := ⟨by (with_reducible repeat (first | refine blk_drewN ?_ _ | refine blk_drew ?_ | refine blk_alloc ?_ _)); refine blk_far ?_ NB118_126.out _; (with_reducible repeat (first | refine blk_drewN ?_ _ | refine blk_drew ?_ | refine blk_alloc ?_ _)); refine blk_far ?_ NB118_126.out _; (with_reducible repeat (first | refine blk_drewN ?_ _ | refine blk_drew ?_ | refine blk_alloc ?_ _)); refine blk_far ?_ NB118_126.out _; (with_reducible repeat (first | refine blk_drewN ?_ _ | refine blk_drew ?_ | refine blk_alloc ?_ _)); refine blk_far ?_ NB118_126.out _; (with_reducible repeat (first | refine blk_drewN ?_ _ | refine blk_drew ?_ | refine blk_alloc ?_ _)); refine blk_far ?_ NB118_126.out _; (with_reducible repeat (first | refine blk_drewN ?_ _ | refine blk_drew ?_ | refine blk_alloc ?_ _)); refine blk_far ?_ NB118_126.out _; (with_reducible repeat (first | refine blk_drewN ?_ _ | refine blk_drew ?_ | refine blk_alloc ?_ _)); refine blk_far ?_ NB118_126.out _; (with_reducible repeat (first | refine blk_drewN ?_ _ | refine blk_drew ?_ | refine blk_alloc ?_ _)); exact BK118.out⟩
           have n4_ : Aside0 ((((((((w92.setCell ⟨gb126, 0, none⟩ (.int .i64 0)).setCell ⟨gb126, 1, none⟩ (.int .i64 0)).setCell ⟨gb126, 2, none⟩ (.int .i64 0)).setCell ⟨gb126, 3, none⟩ (.int .i64 0)).setCell ⟨gb126, 4, none⟩ (.int .i64 0)).setCell ⟨gb126, 5, none⟩ (.slice none 0 0)).setCell ⟨gb126, 6, none⟩ (.int .i64 10)).heap[gb126]? = some (.cells #[.int .i64 0, .int .i64 0, .int .i64 0, .int .i64 0, .int .i64 0, .slice none 0 0, .int .i64 10] 28 (0, 0))) := ⟨by (with_reducible repeat (first | refine blk_drewN ?_ _ | refine blk_drew ?_ | refine blk_alloc ?_ _)); refine blk_put (cs := #[.int .i64 0, .int .i64 0, .int .i64 0, .int .i64 0, .int .i64 0, .slice none 0 0, .int .i64 0]) ?_ 6 _ rfl; (with_reducible repeat (first | refine blk_drewN ?_ _ | refine blk_drew ?_ | refine blk_alloc ?_ _)); refine blk_put (cs := #[.int .i64 0, .int .i64 0, .int .i64 0, .int .i64 0, .int .i64 0, .slice none 0 0, .int .i64 0]) ?_ 5 _ rfl; (with_reducible repeat (first | refine blk_drewN ?_ _ | refine blk_drew ?_ | refine blk_alloc ?_ _)); refine blk_put (cs := #[.int .i64 0, .int .i64 0, .int .i64 0, .int .i64 0, .int .i64 0, .slice none 0 0, .int .i64 0]) ?_ 4 _ rfl; (with_reducible repeat (first | refine blk_drewN ?_ _ | refine blk_drew ?_ | refine blk_alloc ?_ _)); refine blk_put (cs := #[.int .i64 0, .int .i64 0, .int .i64 0, .int .i64 0, .int .i64 0, .slice none 0 0, .int .i64 0]) ?_ 3 _ rfl; (with_reducible repeat (first | refine blk_drewN ?_ _ | refine blk_drew ?_ | refine blk_alloc ?_ _)); refine blk_put (cs := #[.int .i64 0, .int .i64 0, .int .i64 0, .int .i64 0, .int .i64 0, .slice none 0 0, .int .i64 0]) ?_ 2 _ rfl; (with_reducible repeat (first | refine blk_drewN ?_ _ | refine blk_drew ?_ | refine blk_alloc ?_ _)); refine blk_put (cs := #[.int .i64 0, .int .i64 0, .int .i64 0, .int .i64 0, .int .i64 0, .slice none 0 0, .int .i64 0]) ?_ 1 _ rfl; (with_reducible repeat (first | refine blk_drewN ?_ _ | refine blk_drew ?_ | refine blk_alloc ?_ _)); refine blk_put (cs := #[.int .i64 0, .int .i64 0, .int .i64 0, .int .i64 0, .int .i64 0, .slice none 0 0, .int .i64 0]) ?_ 0 _ rfl; (with_reducible repeat (first | refine blk_drewN ?_ _ | refine blk_drew ?_ | refine blk_alloc ?_ _)); exact BK126.out⟩
           have n5_ : Aside0 (Below w.heap.size w (((((((w92.setCell ⟨gb126, 0, none⟩ (.int .i64 0)).setCell ⟨gb126, 1, none⟩ (.int .i64 0)).setCell ⟨gb126, 2, none⟩ (.int .i64 0)).setCell ⟨gb126, 3, none⟩ (.int .i64 0)).setCell ⟨gb126, 4, none⟩ (.int .i64 0)).setCell ⟨gb126, 5, none⟩ (.slice none 0 0)).setCell ⟨gb126, 6, none⟩ (.int .i64 10))) := ⟨by repeat (first | (with_reducible first | exact HB.out | apply below_alloc | apply pw_below_drewN | apply below_drew1 | refine below_set ?_ GE117.out | refine below_set ?_ GE118.out | refine below_set ?_ GE126.out) | exact HB.out)⟩
           (try clear HO_5)
           (try clear HO_6)
           (try clear BK117)
           (try clear BK118)
           (try clear BK126)
           (try clear HB)
           generalize (((((((w92.setCell ⟨gb126, 0, none⟩ (.int .i64 0)).setCell ⟨gb126, 1, none⟩ (.int .i64 0)).setCell ⟨gb126, 2, none⟩ (.int .i64 0)).setCell ⟨gb126, 3, none⟩ (.int .i64 0)).setCell ⟨gb126, 4, none⟩ (.int .i64 0)).setCell ⟨gb126, 5, none⟩ (.slice none 0 0)).setCell ⟨gb126, 6, none⟩ (.int .i64 10)) = w97 at n0_ n1_ n2_ n3_ n4_ n5_ ⊢
           have HO_5 := n0_
           have HO_6 := n1_
           have BK117 := n2_
           have BK118 := n3_
           have BK126 := n4_
           have HB := n5_
           clear n0_ n1_ n2_ n3_ n4_ n5_
           (try (rw [drewN_self w97]; generalize hq_ : World.drewN w97 _ = w97; have n0_ : Aside0 (Kd.Q k32 32 w97 w.heap.size (fun k_ => some k_ ≠ (.slice Ao96 x6_1.length co96 : Value).ownBlock) u5 x5_1) := ⟨by rw [← hq_]; exact zb7_3⟩; have n1_ : Aside0 (Kd.Q k32 32 w97 w.heap.size (fun k_ => some k_ ≠ (u5 : Value).ownBlock) (.slice Ao96 x6_1.length co96) x6_1) := ⟨by rw [← hq_]; exact zb8_3⟩; have n2_ : Aside0 (w97.heap[gb117]? = some (.cells #[.int .i64 x118000_1, .int .i64 x118001_1, .int .i64 x118002_1, .int .i64 x118003_1, .int .i64 x118004_1] 24 (0, 0))) := ⟨by rw [← hq_]; exact zb1_3⟩; have n3_ : Aside0 (w97.heap[gb118]? = some (.cells #[.int .i64 x119000_1, .int .i64 x119001_1, .int .i64 x119002_1, .int .i64 x119003_1, .int .i64 x119004_1] 24 (0, 0))) := ⟨by rw [← hq_]; exact zb4_3⟩; have n4_ : Aside0 (w97.heap[gb126]? = some (.cells #[.int .i64 0, .int .i64 0, .int .i64 0, .int .i64 0, .int .i64 0, .slice none 0 0, .int .i64 10] 28 (0, 0))) := ⟨by rw [← hq_]; exact zb20_3⟩; have n5_ : Aside0 (Below w.heap.size w w97) := ⟨by rw [← hq_]; exact zb14_3⟩; clear HO_5 HO_6 BK117 BK118 BK126 HB hq_; have HO_5 := n0_; have HO_6 := n1_; have BK117 := n2_; have BK118 := n3_; have BK126 := n4_; have HB := n5_; clear n0_ n1_ n2_ n3_ n4_ n5_))
           have n0_ := Aside0.mk (Kd.Q_drew HO_5.out)
           have n1_ := Aside0.mk (Kd.Q_drew HO_6.out)
           have n2_ := Aside0.mk (blk_drew BK117.out)
           have n3_ := Aside0.mk (blk_drew BK118.out)
           have n4_ := Aside0.mk (blk_drew BK126.out)
           have n5_ := Aside0.mk (below_drew1 HB.out)
           clear HO_5
           clear HO_6
           clear BK117
           clear BK118
           clear BK126
           clear HB
           have HO_5 := n0_
           have HO_6 := n1_
           have BK117 := n2_
           have BK118 := n3_
           have BK126 := n4_
           have HB := n5_
           clear n0_ n1_ n2_ n3_ n4_ n5_
           have p165 : 0 ≤ (0 : Int) := (by omega)
           have q165 : 0 < (x6_1.length : Int) := of_decide_eq_true zb21_3
           obtain ⟨ad165, e165, hx165_0, hx165_1⟩ := at_T32 (Kd.Q_reads' HO_6.out).2.2 0 p165 q165
           cases e165
           have qi165 : (0 < x6_1.length) = True := eq_true (by omega)
           (try rw [show ((0 : Int)).toNat = 0 from rfl] at hx165_0)
           (try rw [show 0 * 2 = 0 from rfl] at hx165_0)
           (try rw [Addr.add_zero'] at hx165_0)
           (try rw [show ((0 : Int)).toNat = 0 from rfl] at hx165_1)
           (try rw [show 0 * 2 = 0 from rfl] at hx165_1)
           (try rw [Addr.add_zero'] at hx165_1)
           replace p165 := eq_true p165
           replace q165 := eq_true q165
           refine start_ (n := 7) (S := fun w' => w'.cell? ⟨gb117, 0, none⟩ = some (.int .i64 x118000_1) ∧ w'.cell? ⟨gb117, 1, none⟩ = some (.int .i64 x118001_1) ∧ w'.cell? ⟨gb117, 2, none⟩ = some (.int .i64 x118002_1) ∧ w'.cell? ⟨gb117, 3, none⟩ = some (.int .i64 x118003_1) ∧ w'.cell? ⟨gb117, 4, none⟩ = some (.int .i64 x118004_1) ∧ w'.cell? ad165 = some (.int .i64 ((rd_T32 x6_1 0).f0)) ∧ w'.cell? ⟨ad165.block, ad165.off + 1, none⟩ = some (.int .i64 ((rd_T32 x6_1 0).f1))) (ds := [6]) zm0 (by kernel_rfl) rfl rfl ⟨(blk_cell BK117.out 0).trans rfl, (blk_cell BK117.out 1).trans rfl, (blk_cell BK117.out 2).trans rfl, (blk_cell BK117.out 3).trans rfl, (blk_cell BK117.out 4).trans rfl, hx165_0, hx165_1⟩ (fun hHeld => ?_)
           generalize w97.drew = w98 at HO_5 HO_6 BK117 BK118 BK126 HB hx165_0 hx165_1 hHeld ⊢
           refine pure_ (i := 1) (N := some 39) (v := ?_) (a' := ?_) zm1 rfl rfl (by kernel_rfl) (fun _ _ _ h => h) (Or.inl ⟨by rfl, ?_⟩) ?_ ?_
           rotate_left
           ·
            intro w'
            go_simp
            with_reducible rfl
           rotate_left
           ·
            simp only [Act.put, List.setIfInBounds_toArray, List.set_cons_zero, List.set_cons_succ, i64_w, i32_w]
            rfl
           refine pure_ (i := 2) (N := some 40) (v := ?_) (a' := ?_) zm2 rfl rfl (by kernel_rfl) (fun _ _ _ h => h) (Or.inl ⟨by rfl, ?_⟩) ?_ ?_
           rotate_left
           ·
            intro w'
            go_simp
            with_reducible rfl
           rotate_left
           ·
            simp only [Act.put, List.setIfInBounds_toArray, List.set_cons_zero, List.set_cons_succ, i64_w, i32_w]
            rfl
           refine take_ (i := 0) (N := some 38) (v := ?_) (a' := ?_) zm3 rfl rfl (by kernel_rfl) (fun _ _ _ h => h) (Or.inl ⟨by rfl, ?_⟩) hHeld ?_ ?_
           rotate_left
           ·
            rintro w' ⟨s0, s1, s2, s3, s4, s5, s6⟩
            go_simp
            with_reducible rfl
           rotate_left
           ·
            simp only [Act.put, List.setIfInBounds_toArray, List.set_cons_zero, List.set_cons_succ, i64_w, i32_w]
            rfl
           refine take_ (i := 3) (N := some 41) (v := ?_) (a' := ?_) zm4 rfl rfl (by kernel_rfl) (fun _ _ _ h => h) (Or.inl ⟨by rfl, ?_⟩) hHeld ?_ ?_
           rotate_left
           ·
            rintro w' ⟨s0, s1, s2, s3, s4, s5, s6⟩
            go_simp
            with_reducible rfl
           rotate_left
           ·
            simp only [Act.put, List.setIfInBounds_toArray, List.set_cons_zero, List.set_cons_succ, i64_w, i32_w]
            rfl
           refine one_ (i := 4) (N := some 42) zm5 rfl rfl (by kernel_rfl) (by decide) (fun K hK => ?_)
           refine goes_ Try.func6 (by kernel_rfl) rfl #[.agg #[.int .i64 x118000_1, .int .i64 x118001_1, .int .i64 x118002_1, .int .i64 x118003_1, .int .i64 x118004_1], .agg #[.int .i64 ((rd_T32 x6_1 0).f0), .int .i64 ((rd_T32 x6_1 0).f1)]] (by rfl) rfl rfl zb6_3 ?_
           with_reducible refine (impl_HalfHear.calls x118000_1 x118001_1 x118002_1 x118003_1 x118004_1 ((rd_T32 x6_1 0).f0) ((rd_T32 x6_1 0).f1) t166 t167 t168 t169 t170 t171 t174 _ A90.out).mono ?_
           rintro e w99 ⟨v172, rfl, ho0, hb⟩
           have HS5_ := (hb.cell (World.block_lt_of_cell? _ _ (hHeld.2.2.2.2.2.1))).trans (hHeld.2.2.2.2.2.1)
           have HS6_ := (hb.cell (World.block_lt_of_cell? _ _ (hHeld.2.2.2.2.2.2))).trans (hHeld.2.2.2.2.2.2)
           refine ⟨_, rfl, ?_⟩
           have n0_ := Aside0.mk (Kd.Q_elder' zb7_3 (Kd.R_base ho0) hb)
           have n1_ := Aside0.mk (Kd.Q_elder' zb8_3 (Kd.R_base ho0) hb)
           have n2_ := Aside0.mk (Kd.R_lower (Kd.R_new' (Kd.R_new' ho0 (Kd.Q_lt zb7_3)) (Kd.Q_lt zb8_3)) (below_size zb14_3))
           have n3_ := Aside0.mk (blk_below (g := gb117) (o := .cells #[.int .i64 x118000_1, .int .i64 x118001_1, .int .i64 x118002_1, .int .i64 x118003_1, .int .i64 x118004_1] 24 (0, 0)) zb1_3 hb)
           have n4_ := Aside0.mk (blk_below (g := gb118) (o := .cells #[.int .i64 x119000_1, .int .i64 x119001_1, .int .i64 x119002_1, .int .i64 x119003_1, .int .i64 x119004_1] 24 (0, 0)) zb4_3 hb)
           have n5_ := Aside0.mk (blk_below (g := gb126) (o := .cells #[.int .i64 0, .int .i64 0, .int .i64 0, .int .i64 0, .int .i64 0, .slice none 0 0, .int .i64 10] 28 (0, 0)) zb20_3 hb)
           have n6_ := Aside0.mk (below_step zb14_3 hb)
           clear HO_5
           clear HO_6
           clear BK117
           clear BK118
           clear BK126
           clear HB
           have HO_5 := n0_
           have HO_6 := n1_
           have HO173 := n2_
           have BK117 := n3_
           have BK118 := n4_
           have BK126 := n5_
           have HB := n6_
           clear n0_ n1_ n2_ n3_ n4_ n5_ n6_
           (try clear hb)
           (try clear hb2)
           (try clear hk)
           (try clear hi)
           (try clear ho0)
           refine hK.out _ _ ⟨(blk_cell BK117.out 0).trans rfl, (blk_cell BK117.out 1).trans rfl, (blk_cell BK117.out 2).trans rfl, (blk_cell BK117.out 3).trans rfl, (blk_cell BK117.out 4).trans rfl, HS5_, HS6_⟩ (fun hHeld => ?_)
           clear hK K
           refine norm_ (a' := ?_) ?_ ?_
           rotate_left
           ·
            show Act.put _ (some 42) _ = _
            simp only [Act.put, List.setIfInBounds_toArray, List.set_cons_zero, List.set_cons_succ, i64_w, i32_w]
            rfl
           refine pure_ (i := 5) (N := some 43) (v := ?_) (a' := ?_) zm6 rfl rfl (by kernel_rfl) (fun _ _ _ h => h) (Or.inl ⟨by rfl, ?_⟩) ?_ ?_
           rotate_left
           ·
            intro w'
            go_simp
            with_reducible rfl
           rotate_left
           ·
            simp only [Act.put, List.setIfInBounds_toArray, List.set_cons_zero, List.set_cons_succ, i64_w, i32_w]
            rfl
           refine last_ (i := 6) (N := none) zm7 rfl rfl (by kernel_rfl) (by decide) (fun K hK => ?_)
           have hs100 : w99.cell? ⟨gb117, 0, none⟩ = some (.int .i64 x118000_1) := (blk_cell BK117.out 0).trans rfl
           have hfs100 := blk_frozen BK117.out 0
           have hns100_1 := NB118_117.out
           have hns100_2 := NB126_117.out
           have hms100_1 := NB117_118.out
           have hms100_2 := NB117_126.out
           have hs101 : w99.cell? ⟨gb117, 1, none⟩ = some (.int .i64 x118001_1) := (blk_cell BK117.out 1).trans rfl
           have hfs101 := blk_frozen BK117.out 1
           have hns101_1 := NB118_117.out
           have hns101_2 := NB126_117.out
           have hms101_1 := NB117_118.out
           have hms101_2 := NB117_126.out
           have hs102 : w99.cell? ⟨gb117, 2, none⟩ = some (.int .i64 x118002_1) := (blk_cell BK117.out 2).trans rfl
           have hfs102 := blk_frozen BK117.out 2
           have hns102_1 := NB118_117.out
           have hns102_2 := NB126_117.out
           have hms102_1 := NB117_118.out
           have hms102_2 := NB117_126.out
           have hs103 : w99.cell? ⟨gb117, 3, none⟩ = some (.int .i64 x118003_1) := (blk_cell BK117.out 3).trans rfl
           have hfs103 := blk_frozen BK117.out 3
           have hns103_1 := NB118_117.out
           have hns103_2 := NB126_117.out
           have hms103_1 := NB117_118.out
           have hms103_2 := NB117_126.out
           have hs104 : w99.cell? ⟨gb117, 4, none⟩ = some (.int .i64 x118004_1) := (blk_cell BK117.out 4).trans rfl
           have hfs104 := blk_frozen BK117.out 4
           have hns104_1 := NB118_117.out
           have hns104_2 := NB126_117.out
           have hms104_1 := NB117_118.out
           have hms104_2 := NB117_126.out
           refine skip_ (w1 := ?_) (by rfl) rfl ?_ ?_
           rotate_left
           ·
            go_simp
            rfl
           refine hK.out _ _ ?_
           clear hK K
           refine done_ (by kernel_rfl) ?_
           have n0_ : Aside0 (Kd.Q k32 32 (((((w99.setCell ⟨gb117, 0, none⟩ (.int .i64 t166)).setCell ⟨gb117, 1, none⟩ (.int .i64 t167)).setCell ⟨gb117, 2, none⟩ (.int .i64 t168)).setCell ⟨gb117, 3, none⟩ (.int .i64 t169)).setCell ⟨gb117, 4, none⟩ (.int .i64 t170)) w.heap.size (fun k_ => some k_ ≠ (.slice (some ad165) x6_1.length co96 : Value).ownBlock ∧ some k_ ≠ (v172 : Value).ownBlock) u5 x5_1) := ⟨by (with_reducible repeat (first | apply Kd.Q_alloc | apply Kd.Q_drewN | apply Kd.Q_drew)); exact Kd.Q_mono (Kd.Q_far (p := ⟨gb117, 4, none⟩) (Kd.Q_far (p := ⟨gb117, 3, none⟩) (Kd.Q_far (p := ⟨gb117, 2, none⟩) (Kd.Q_far (p := ⟨gb117, 1, none⟩) (Kd.Q_far (p := ⟨gb117, 0, none⟩) (Kd.Q_types HO_5.out BK117.out (by decide)) (fun _ hk => hk.2) (.int .i64 t166)) (fun _ hk => hk.2) (.int .i64 t167)) (fun _ hk => hk.2) (.int .i64 t168)) (fun _ hk => hk.2) (.int .i64 t169)) (fun _ hk => hk.2) (.int .i64 t170)) (fun _ hk => ⟨hk.1.1, hk.1.2⟩)⟩
           have n1_ : Aside0 (Kd.Q k32 32 (((((w99.setCell ⟨gb117, 0, none⟩ (.int .i64 t166)).setCell ⟨gb117, 1, none⟩ (.int .i64 t167)).setCell ⟨gb117, 2, none⟩ (.int .i64 t168)).setCell ⟨gb117, 3, none⟩ (.int .i64 t169)).setCell ⟨gb117, 4, none⟩ (.int .i64 t170)) w.heap.size (fun k_ => some k_ ≠ (u5 : Value).ownBlock ∧ some k_ ≠ (v172 : Value).ownBlock) (.slice (some ad165) x6_1.length co96) x6_1) := ⟨by (with_reducible repeat (first | apply Kd.Q_alloc | apply Kd.Q_drewN | apply Kd.Q_drew)); exact Kd.Q_mono (Kd.Q_far (p := ⟨gb117, 4, none⟩) (Kd.Q_far (p := ⟨gb117, 3, none⟩) (Kd.Q_far (p := ⟨gb117, 2, none⟩) (Kd.Q_far (p := ⟨gb117, 1, none⟩) (Kd.Q_far (p := ⟨gb117, 0, none⟩) (Kd.Q_types HO_6.out BK117.out (by decide)) (fun _ hk => hk.2) (.int .i64 t166)) (fun _ hk => hk.2) (.int .i64 t167)) (fun _ hk => hk.2) (.int .i64 t168)) (fun _ hk => hk.2) (.int .i64 t169)) (fun _ hk => hk.2) (.int .i64 t170)) (fun _ hk => ⟨hk.1.1, hk.1.2⟩)⟩
           have n2_ : Aside0 (Kd.R k32 32 (((((w99.setCell ⟨gb117, 0, none⟩ (.int .i64 t166)).setCell ⟨gb117, 1, none⟩ (.int .i64 t167)).setCell ⟨gb117, 2, none⟩ (.int .i64 t168)).setCell ⟨gb117, 3, none⟩ (.int .i64 t169)).setCell ⟨gb117, 4, none⟩ (.int .i64 t170)) w.heap.size (fun k_ => some k_ ≠ (u5 : Value).ownBlock ∧ some k_ ≠ (.slice (some ad165) x6_1.length co96 : Value).ownBlock) v172 t171) := ⟨by (with_reducible repeat (first | apply Kd.R_alloc | apply Kd.R_drewN | apply Kd.R_drew)); exact Kd.R_mono (Kd.R_far (p := ⟨gb117, 4, none⟩) (Kd.R_far (p := ⟨gb117, 3, none⟩) (Kd.R_far (p := ⟨gb117, 2, none⟩) (Kd.R_far (p := ⟨gb117, 1, none⟩) (Kd.R_far (p := ⟨gb117, 0, none⟩) (Kd.R_types HO173.out BK117.out (by decide)) (fun _ hk => hk.2) (.int .i64 t166)) (fun _ hk => hk.2) (.int .i64 t167)) (fun _ hk => hk.2) (.int .i64 t168)) (fun _ hk => hk.2) (.int .i64 t169)) (fun _ hk => hk.2) (.int .i64 t170)) (fun _ hk => ⟨hk.1.1.2, hk.1.2⟩)⟩
           have n3_ : Aside0 ((((((w99.setCell ⟨gb117, 0, none⟩ (.int .i64 t166)).setCell ⟨gb117, 1, none⟩ (.int .i64 t167)).setCell ⟨gb117, 2, none⟩ (.int .i64 t168)).setCell ⟨gb117, 3, none⟩ (.int .i64 t169)).setCell ⟨gb117, 4, none⟩ (.int .i64 t170)).heap[gb117]? = some (.cells #[.int .i64 t166, .int .i64 t167, .int .i64 t168, .int .i64 t169, .int .i64 t170] 24 (0, 0))) := ⟨by (with_reducible repeat (first | refine blk_drewN ?_ _ | refine blk_drew ?_ | refine blk_alloc ?_ _)); refine blk_put (cs := #[.int .i64 t166, .int .i64 t167, .int .i64 t168, .int .i64 t169, .int .i64 x118004_1]) ?_ 4 _ rfl; (with_reducible repeat (first | refine blk_drewN ?_ _ | refine blk_drew ?_ | refine blk_alloc ?_ _)); refine blk_put (cs := #[.int .i64 t166, .int .i64 t167, .int .i64 t168, .int .i64 x118003_1, .int .i64 x118004_1]) ?_ 3 _ rfl; (with_reducible repeat (first | refine blk_drewN ?_ _ | refine blk_drew ?_ | refine blk_alloc ?_ _)); refine blk_put (cs := #[.int .i64 t166, .int .i64 t167, .int .i64 x118002_1, .int .i64 x118003_1, .int .i64 x118004_1]) ?_ 2 _ rfl; (with_reducible repeat (first | refine blk_drewN ?_ _ | refine blk_drew ?_ | refine blk_alloc ?_ _)); refine blk_put (cs := #[.int .i64 t166, .int .i64 x118001_1, .int .i64 x118002_1, .int .i64 x118003_1, .int .i64 x118004_1]) ?_ 1 _ rfl; (with_reducible repeat (first | refine blk_drewN ?_ _ | refine blk_drew ?_ | refine blk_alloc ?_ _)); refine blk_put (cs := #[.int .i64 x118000_1, .int .i64 x118001_1, .int .i64 x118002_1, .int .i64 x118003_1, .int .i64 x118004_1]) ?_ 0 _ rfl; (with_reducible repeat (first | refine blk_drewN ?_ _ | refine blk_drew ?_ | refine blk_alloc ?_ _)); exact BK117.out⟩
           have n4_ : Aside0 ((((((w99.setCell ⟨gb117, 0, none⟩ (.int .i64 t166)).setCell ⟨gb117, 1, none⟩ (.int .i64 t167)).setCell ⟨gb117, 2, none⟩ (.int .i64 t168)).setCell ⟨gb117, 3, none⟩ (.int .i64 t169)).setCell ⟨gb117, 4, none⟩ (.int .i64 t170)).heap[gb118]? = some (.cells #[.int .i64 x119000_1, .int .i64 x119001_1, .int .i64 x119002_1, .int .i64 x119003_1, .int .i64 x119004_1] 24 (0, 0))) := ⟨by (with_reducible repeat (first | refine blk_drewN ?_ _ | refine blk_drew ?_ | refine blk_alloc ?_ _)); refine blk_far ?_ NB118_117.out _; (with_reducible repeat (first | refine blk_drewN ?_ _ | refine blk_drew ?_ | refine blk_alloc ?_ _)); refine blk_far ?_ NB118_117.out _; (with_reducible repeat (first | refine blk_drewN ?_ _ | refine blk_drew ?_ | refine blk_alloc ?_ _)); refine blk_far ?_ NB118_117.out _; (with_reducible repeat (first | refine blk_drewN ?_ _ | refine blk_drew ?_ | refine blk_alloc ?_ _)); refine blk_far ?_ NB118_117.out _; (with_reducible repeat (first | refine blk_drewN ?_ _ | refine blk_drew ?_ | refine blk_alloc ?_ _)); refine blk_far ?_ NB118_117.out _; (with_reducible repeat (first | refine blk_drewN ?_ _ | refine blk_drew ?_ | refine blk_alloc ?_ _)); exact BK118.out⟩
           have n5_ : Aside0 ((((((w99.setCell ⟨gb117, 0, none⟩ (.int .i64 t166)).setCell ⟨gb117, 1, none⟩ (.int .i64 t167)).setCell ⟨gb117, 2, none⟩ (.int .i64 t168)).setCell ⟨gb117, 3, none⟩ (.int .i64 t169)).setCell ⟨gb117, 4, none⟩ (.int .i64 t170)).heap[gb126]? = some (.cells #[.int .i64 0, .int .i64 0, .int .i64 0, .int .i64 0, .int .i64 0, .slice none 0 0, .int .i64 10] 28 (0, 0))) := ⟨by (with_reducible repeat (first | refine blk_drewN ?_ _ | refine blk_drew ?_ | refine blk_alloc ?_ _)); refine blk_far ?_ NB126_117.out _; (with_reducible repeat (first | refine blk_drewN ?_ _ | refine blk_drew ?_ | refine blk_alloc ?_ _)); refine blk_far ?_ NB126_117.out _; (with_reducible repeat (first | refine blk_drewN ?_ _ | refine blk_drew ?_ | refine blk_alloc ?_ _)); refine blk_far ?_ NB126_117.out _; (with_reducible repeat (first | refine blk_drewN ?_ _ | refine blk_drew ?_ | refine blk_alloc ?_ _)); refine blk_far ?_ NB126_117.out _; (with_reducible repeat (first | refine blk_drewN ?_ _ | refine blk_drew ?_ | refine blk_alloc ?_ _)); refine blk_far ?_ NB126_117.out _; (with_reducible repeat (first | refine blk_drewN ?_ _ | refine blk_drew ?_ | refine blk_alloc ?_ _)); exact BK126.out⟩
           have n6_ : Aside0 (Below w.heap.size w (((((w99.setCell ⟨gb117, 0, none⟩ (.int .i64 t166)).setCell ⟨gb117, 1, none⟩ (.int .i64 t167)).setCell ⟨gb117, 2, none⟩ (.int .i64 t168)).setCell ⟨gb117, 3, none⟩ (.int .i64 t169)).setCell ⟨gb117, 4, none⟩ (.int .i64 t170))) := ⟨by repeat (first | (with_reducible first | exact HB.out | apply below_alloc | apply pw_below_drewN | apply below_drew1 | refine below_set ?_ GE117.out | refine below_set ?_ GE118.out | refine below_set ?_ GE126.out) | exact HB.out)⟩
           (try clear HO_5)
           (try clear HO_6)
           (try clear HO173)
           (try clear BK117)
           (try clear BK118)
           (try clear BK126)
           (try clear HB)
           generalize (((((w99.setCell ⟨gb117, 0, none⟩ (.int .i64 t166)).setCell ⟨gb117, 1, none⟩ (.int .i64 t167)).setCell ⟨gb117, 2, none⟩ (.int .i64 t168)).setCell ⟨gb117, 3, none⟩ (.int .i64 t169)).setCell ⟨gb117, 4, none⟩ (.int .i64 t170)) = w105 at n0_ n1_ n2_ n3_ n4_ n5_ n6_ ⊢
           have HO_5 := n0_
           have HO_6 := n1_
           have HO173 := n2_
           have BK117 := n3_
           have BK118 := n4_
           have BK126 := n5_
           have HB := n6_
           clear n0_ n1_ n2_ n3_ n4_ n5_ n6_
           have q106 : (1 : Int) ≤ ((x6_1.length : Int) : Int) := of_decide_eq_true zb21_3
           obtain ⟨i0106, hi0106, _, hsz106, _⟩ := info_parts info32
           have hcut106 := cut_from (P := Try.prog) 25 32 .i64 Try.underlying25 hi0106 2 hsz106 (some ad165) x6_1.length co96 1 (by omega) q106
           have hr106 := Kd.Q_drop (k := (1 : Int).toNat) HO_6.out (by omega)
           obtain ⟨A106, hA106⟩ : ∃ A1, A1 = (if co96 = (1 : Int).toNat then (some ad165) else ((some ad165) : Option Addr).map (·.add ((1 : Int).toNat * 2))) := ⟨_, rfl⟩
           obtain ⟨c106, hc106⟩ : ∃ c1, c1 = co96 - (1 : Int).toNat := ⟨_, rfl⟩
           have hy106 : y175.length = x6_1.length - (1 : Int).toNat := (by rw [Ny175.out, List.length_drop])
           rw [← Ny175.out] at hr106
           rw [← hy106, ← hA106, ← hc106] at hcut106
           replace hr106 : Kd.Q k32 32 w105 w.heap.size (fun k_ => some k_ ≠ (u5 : Value).ownBlock ∧ some k_ ≠ (v172 : Value).ownBlock) (.slice A106 y175.length c106) y175 := (by rw [hA106, hc106, hy106]; exact hr106)
           have HE106 : Aside0 ((Value.slice A106 y175.length c106).ownBlock = (.slice (some ad165) x6_1.length co96 : Value).ownBlock) := ⟨by rw [hA106]; split <;> (cases ((some ad165) : Option Addr) <;> rfl)⟩
           clear hy106 hi0106 hsz106 HO_6 hA106 hc106
           have HO177 := Aside0.mk hr106
           clear hr106
           replace q106 := eq_true q106
           have n_ := Aside0.mk (Kd.Q_mono (ok' := fun k_ => (some k_ ≠ (.slice A106 y175.length c106 : Value).ownBlock ∧ some k_ ≠ (v172 : Value).ownBlock)) HO_5.out (fun k_ hk => ⟨(by rw [HE106.out]; exact hk.1), hk.2⟩))
           clear HO_5
           have HO_5 := n_
           clear n_
           have n_ := Aside0.mk (Kd.R_mono (ok' := fun k_ => (some k_ ≠ (u5 : Value).ownBlock ∧ some k_ ≠ (.slice A106 y175.length c106 : Value).ownBlock)) HO173.out (fun k_ hk => ⟨hk.1, (by rw [HE106.out]; exact hk.2)⟩))
           clear HO173
           have HO173 := n_
           clear n_
           try go_wp2
           go_roundg k1
           case measure => have := HK1.out; omega
           case rel => exact ⟨(x5_1), (y175), (wrap64 (x7_1 + 1)), (t166), (t167), (t168), (t169), (t170), (x119000_1), (x119001_1), (x119002_1), (x119003_1), (x119004_1), zb5_3, H', ⟨by have := HK1.out; omega⟩, ⟨by (with_reducible repeat (first | apply Kd.Q_alloc | apply Kd.Q_drewN | apply Kd.Q_drew)); exact Kd.Q_mono HO_5.out (fun _ hk => hk.1)⟩, ⟨by (with_reducible repeat (first | apply Kd.Q_alloc | apply Kd.Q_drewN | apply Kd.Q_drew)); exact Kd.Q_mono HO177.out (fun _ hk => hk.1)⟩, ⟨by (with_reducible repeat (first | refine blk_drewN ?_ _ | refine blk_drew ?_ | refine blk_alloc ?_ _)); exact BK117.out⟩, ⟨by (with_reducible repeat (first | refine blk_drewN ?_ _ | refine blk_drew ?_ | refine blk_alloc ?_ _)); exact BK118.out⟩, ⟨by repeat (first | (with_reducible first | exact HB.out | apply below_alloc | apply pw_below_drewN | apply below_drew1 | refine below_set ?_ GE117.out | refine below_set ?_ GE118.out | refine below_set ?_ GE126.out) | exact HB.out)⟩⟩
          ·
           rw [if_neg c91] at H
           exact absurd H (by simp)
         ·
          rw [if_neg c89] at H
          exact absurd H (by simp)
        ·
         rw [if_neg c88] at H
         have c88b0 : decide (0 < (x6_1.length : Int)) = false := decide_eq_false c88
         have c88b1 : decide (0 < x6_1.length) = false := decide_eq_false (by omega)
         clear c88
         have H' := Aside0.mk H
         clear H
         go_wp2_with (first | ((with_reducible refine gate_callee (f := 4) rfl ?_); refine goesL_ (some 27) rfl rfl Try.func4 (by kernel_rfl) rfl #[.slice A0 l0.length c0, .int .i64 (wrap64 (2 * x7_1)), .int .i64 4] rfl zb6_3 ?_; (with_reducible refine (laws_lwAt.calls _ _ l0 (wrap64 (2 * x7_1)) 4 t125 _ ?side1 ?side2 A13.out).mono ?_); (case side1 => repeat (first | exact (Kd.C_below HR0.out HB.out) | (with_reducible refine Kd.C_alloc ?_ _) | (with_reducible refine Kd.C_drewN ?_ _) | (with_reducible refine Kd.C_drew ?_))); (case side2 => exact HC0.out); rintro e w' ⟨rfl, ⟨nd, rfl⟩⟩; refine ⟨_, rfl, ?_⟩; (try (rw [drewN_self wr]; generalize hq_ : World.drewN wr _ = wr; have n0_ : Aside0 (Kd.Q k32 32 wr w.heap.size (fun k_ => some k_ ≠ (u6 : Value).ownBlock) u5 x5_1) := ⟨by rw [← hq_]; exact zb7_3⟩; have n1_ : Aside0 (Kd.Q k32 32 wr w.heap.size (fun k_ => some k_ ≠ (u5 : Value).ownBlock) u6 x6_1) := ⟨by rw [← hq_]; exact zb8_3⟩; have n2_ : Aside0 (wr.heap[gb117]? = some (.cells #[.int .i64 x118000_1, .int .i64 x118001_1, .int .i64 x118002_1, .int .i64 x118003_1, .int .i64 x118004_1] 24 (0, 0))) := ⟨by rw [← hq_]; exact zb1_3⟩; have n3_ : Aside0 (wr.heap[gb118]? = some (.cells #[.int .i64 x119000_1, .int .i64 x119001_1, .int .i64 x119002_1, .int .i64 x119003_1, .int .i64 x119004_1] 24 (0, 0))) := ⟨by rw [← hq_]; exact zb4_3⟩; have n4_ : Aside0 (Below w.heap.size w wr) := ⟨by rw [← hq_]; exact zb3_3⟩; clear HO_5 HO_6 BK117 BK118 HB hq_; have HO_5 := n0_; have HO_6 := n1_; have BK117 := n2_; have BK118 := n3_; have HB := n4_; clear n0_ n1_ n2_ n3_ n4_))) | ((with_reducible refine gate_dst (N := 9) rfl ?_); refine box_event ?hg (N := 9) ?hd (cs := #[.int .i64 0, .int .i64 0, .int .i64 0, .int .i64 0, .int .i64 0, .slice none 0 0, .int .i64 0]) (t := 28) ?hr ?_; (case hd => rfl); (case hg => rfl); (case hr => first | (go_simp; done) | (go_simp; rfl)); intro gb126 hg w107 hbox hb; have n0_ := Aside0.mk (Kd.Q_below zb7_3 hb); have n1_ := Aside0.mk (Kd.Q_below zb8_3 hb); have n2_ := Aside0.mk (blk_below (g := gb117) (o := .cells #[.int .i64 x118000_1, .int .i64 x118001_1, .int .i64 x118002_1, .int .i64 x118003_1, .int .i64 x118004_1] 24 (0, 0)) zb1_3 hb); have n3_ := Aside0.mk (blk_below (g := gb118) (o := .cells #[.int .i64 x119000_1, .int .i64 x119001_1, .int .i64 x119002_1, .int .i64 x119003_1, .int .i64 x119004_1] 24 (0, 0)) zb4_3 hb); have n4_ := Aside0.mk (below_step zb3_3 hb); have n5_ := Aside0.mk (hbox); have n6_ := Aside0.mk ((zb9_3 : w.heap.size ≤ gb126)); have n7_ := Aside0.mk ((zb9_3 : w.heap.size ≤ gb126)); have n8_ := Aside0.mk ((zb10_3 : gb117 ≠ gb126)); have n9_ := Aside0.mk ((zb11_3 : gb126 ≠ gb117)); have n10_ := Aside0.mk ((zb12_3 : gb118 ≠ gb126)); have n11_ := Aside0.mk ((zb13_3 : gb126 ≠ gb118)); clear HO_5; clear HO_6; clear BK117; clear BK118; clear HB; have HO_5 := n0_; have HO_6 := n1_; have BK117 := n2_; have BK118 := n3_; have HB := n4_; have BK126 := n5_; have GW126 := n6_; have GE126 := n7_; have NB117_126 := n8_; have NB126_117 := n9_; have NB118_126 := n10_; have NB126_118 := n11_; clear n0_ n1_ n2_ n3_ n4_ n5_ n6_ n7_ n8_ n9_ n10_ n11_; clear hb hbox hg; have hnb108 := NB126_117.out; have hnc108 := NB117_126.out; have hnb109 := NB126_118.out; have hnc109 := NB118_126.out; have hcz110_0 := bcq_3 BK126.out 0; have hcz110_1 := bcq_3 BK126.out 1; have hcz110_2 := bcq_3 BK126.out 2; have hcz110_3 := bcq_3 BK126.out 3; have hcz110_4 := bcq_3 BK126.out 4; have hcz110_5 := bcq_3 BK126.out 5; have hcz110_6 := bcq_3 BK126.out 6; have hfz110_0 := blk_frozen BK126.out 0; have hfz110_1 := blk_frozen BK126.out 1; have hfz110_2 := blk_frozen BK126.out 2; have hfz110_3 := blk_frozen BK126.out 3; have hfz110_4 := blk_frozen BK126.out 4; have hfz110_5 := blk_frozen BK126.out 5; have hfz110_6 := blk_frozen BK126.out 6) | ((with_reducible refine gate_callee (f := 4) rfl ?_); refine goesL_ (some 34) rfl rfl Try.func4 (by kernel_rfl) rfl #[.slice A0 l0.length c0, .int .i64 (wrap64 ((wrap64 (2 * x7_1)) + 1)), .int .i64 4] rfl zb6_3 ?_; (with_reducible refine (laws_lwAt.calls _ _ l0 (wrap64 ((wrap64 (2 * x7_1)) + 1)) 4 t127 _ ?side1 ?side2 A14.out).mono ?_); (case side1 => exact Kd.C_below HR0.out zb14_3); (case side2 => exact HC0.out); rintro e w' ⟨rfl, ⟨nd, rfl⟩⟩; refine ⟨_, rfl, ?_⟩; obtain ⟨Ao111, co111, eo111, _⟩ := Kd.Q_slice HO_6.out; subst eo111))
         go_roundg k1
         case measure => have := HK1.out; omega
         case rel => exact ⟨(x5_1), (x6_1), (wrap64 (x7_1 + 1)), (x118000_1), (x118001_1), (x118002_1), (x118003_1), (x118004_1), (x119000_1), (x119001_1), (x119002_1), (x119003_1), (x119004_1), zb5_3, H', ⟨by have := HK1.out; omega⟩, ⟨by (with_reducible repeat (first | apply Kd.Q_alloc | apply Kd.Q_drewN | apply Kd.Q_drew)); exact Kd.Q_mono (Kd.Q_far (p := ⟨gb126, 6, none⟩) (Kd.Q_far (p := ⟨gb126, 5, none⟩) (Kd.Q_far (p := ⟨gb126, 4, none⟩) (Kd.Q_far (p := ⟨gb126, 3, none⟩) (Kd.Q_far (p := ⟨gb126, 2, none⟩) (Kd.Q_far (p := ⟨gb126, 1, none⟩) (Kd.Q_far (p := ⟨gb126, 0, none⟩) (Kd.Q_types HO_5.out BK126.out (by decide)) (fun _ hk => hk.2) (.int .i64 0)) (fun _ hk => hk.2) (.int .i64 0)) (fun _ hk => hk.2) (.int .i64 0)) (fun _ hk => hk.2) (.int .i64 0)) (fun _ hk => hk.2) (.int .i64 0)) (fun _ hk => hk.2) (.slice none 0 0)) (fun _ hk => hk.2) (.int .i64 10)) (fun _ hk => hk.1)⟩, ⟨by (with_reducible repeat (first | apply Kd.Q_alloc | apply Kd.Q_drewN | apply Kd.Q_drew)); exact Kd.Q_mono (Kd.Q_far (p := ⟨gb126, 6, none⟩) (Kd.Q_far (p := ⟨gb126, 5, none⟩) (Kd.Q_far (p := ⟨gb126, 4, none⟩) (Kd.Q_far (p := ⟨gb126, 3, none⟩) (Kd.Q_far (p := ⟨gb126, 2, none⟩) (Kd.Q_far (p := ⟨gb126, 1, none⟩) (Kd.Q_far (p := ⟨gb126, 0, none⟩) (Kd.Q_types HO_6.out BK126.out (by decide)) (fun _ hk => hk.2) (.int .i64 0)) (fun _ hk => hk.2) (.int .i64 0)) (fun _ hk => hk.2) (.int .i64 0)) (fun _ hk => hk.2) (.int .i64 0)) (fun _ hk => hk.2) (.int .i64 0)) (fun _ hk => hk.2) (.slice none 0 0)) (fun _ hk => hk.2) (.int .i64 10)) (fun _ hk => hk.1)⟩, ⟨by (with_reducible repeat (first | refine blk_drewN ?_ _ | refine blk_drew ?_ | refine blk_alloc ?_ _)); refine blk_far ?_ NB117_126.out _; (with_reducible repeat (first | refine blk_drewN ?_ _ | refine blk_drew ?_ | refine blk_alloc ?_ _)); refine blk_far ?_ NB117_126.out _; (with_reducible repeat (first | refine blk_drewN ?_ _ | refine blk_drew ?_ | refine blk_alloc ?_ _)); refine blk_far ?_ NB117_126.out _; (with_reducible repeat (first | refine blk_drewN ?_ _ | refine blk_drew ?_ | refine blk_alloc ?_ _)); refine blk_far ?_ NB117_126.out _; (with_reducible repeat (first | refine blk_drewN ?_ _ | refine blk_drew ?_ | refine blk_alloc ?_ _)); refine blk_far ?_ NB117_126.out _; (with_reducible repeat (first | refine blk_drewN ?_ _ | refine blk_drew ?_ | refine blk_alloc ?_ _)); refine blk_far ?_ NB117_126.out _; (with_reducible repeat (first | refine blk_drewN ?_ _ | refine blk_drew ?_ | refine blk_alloc ?_ _)); refine blk_far ?_ NB117_126.out _; (with_reducible repeat (first | refine blk_drewN ?_ _ | refine blk_drew ?_ | refine blk_alloc ?_ _)); exact BK117.out⟩, ⟨by (with_reducible repeat (first | refine blk_drewN ?_ _ | refine blk_drew ?_ | refine blk_alloc ?_ _)); refine blk_far ?_ NB118_126.out _; (with_reducible repeat (first | refine blk_drewN ?_ _ | refine blk_drew ?_ | refine blk_alloc ?_ _)); refine blk_far ?_ NB118_126.out _; (with_reducible repeat (first | refine blk_drewN ?_ _ | refine blk_drew ?_ | refine blk_alloc ?_ _)); refine blk_far ?_ NB118_126.out _; (with_reducible repeat (first | refine blk_drewN ?_ _ | refine blk_drew ?_ | refine blk_alloc ?_ _)); refine blk_far ?_ NB118_126.out _; (with_reducible repeat (first | refine blk_drewN ?_ _ | refine blk_drew ?_ | refine blk_alloc ?_ _)); refine blk_far ?_ NB118_126.out _; (with_reducible repeat (first | refine blk_drewN ?_ _ | refine blk_drew ?_ | refine blk_alloc ?_ _)); refine blk_far ?_ NB118_126.out _; (with_reducible repeat (first | refine blk_drewN ?_ _ | refine blk_drew ?_ | refine blk_alloc ?_ _)); refine blk_far ?_ NB118_126.out _; (with_reducible repeat (first | refine blk_drewN ?_ _ | refine blk_drew ?_ | refine blk_alloc ?_ _)); exact BK118.out⟩, ⟨by repeat (first | (with_reducible first | exact HB.out | apply below_alloc | apply pw_below_drewN | apply below_drew1 | refine below_set ?_ GE117.out | refine below_set ?_ GE118.out | refine below_set ?_ GE126.out) | exact HB.out)⟩⟩
    ·
     rw [if_neg c12] at H
     have c12b0 : decide (x7_1 < 60) = false := decide_eq_false c12
     clear c12
     have H' := Aside0.mk H
     clear H
     go_wp2
     go_loopg [10] k1 (fun kq v10 w' => ∃ (x10_2 : Int) (x119000_2 : Int) (x119001_2 : Int) (x119002_2 : Int) (x119003_2 : Int) (x119004_2 : Int), v10 = .int .i64 x10_2 ∧ Aside0 (laws_FnTwo.l1 kq x5_1 x6_1 x10_2 x118000_1 x118001_1 x118002_1 x118003_1 x118004_1 x119000_2 x119001_2 x119002_2 x119003_2 x119004_2 = some r) ∧ Aside0 (kq ≤ k1) ∧ Aside0 (Kd.Q k32 32 w' w.heap.size (fun k_ => some k_ ≠ (u6 : Value).ownBlock) u5 x5_1) ∧ Aside0 (Kd.Q k32 32 w' w.heap.size (fun k_ => some k_ ≠ (u5 : Value).ownBlock) u6 x6_1) ∧ Aside0 (w'.heap[gb117]? = some (.cells #[.int .i64 x118000_1, .int .i64 x118001_1, .int .i64 x118002_1, .int .i64 x118003_1, .int .i64 x118004_1] 24 (0, 0))) ∧ Aside0 (w'.heap[gb118]? = some (.cells #[.int .i64 x119000_2, .int .i64 x119001_2, .int .i64 x119002_2, .int .i64 x119003_2, .int .i64 x119004_2] 24 (0, 0))) ∧ Aside0 (Below w.heap.size w w'))
     case atStart => exact ⟨(0), (x119000_1), (x119001_1), (x119002_1), (x119003_1), (x119004_1), zb5_3, H', ⟨Nat.le_refl _⟩, ⟨by (with_reducible repeat (first | apply Kd.Q_alloc | apply Kd.Q_drewN | apply Kd.Q_drew)); exact HO_5.out⟩, ⟨by (with_reducible repeat (first | apply Kd.Q_alloc | apply Kd.Q_drewN | apply Kd.Q_drew)); exact HO_6.out⟩, ⟨by (with_reducible repeat (first | refine blk_drewN ?_ _ | refine blk_drew ?_ | refine blk_alloc ?_ _)); exact BK117.out⟩, ⟨by (with_reducible repeat (first | refine blk_drewN ?_ _ | refine blk_drew ?_ | refine blk_alloc ?_ _)); exact BK118.out⟩, ⟨by repeat (first | (with_reducible first | exact HB.out | apply below_alloc | apply pw_below_drewN | apply below_drew1 | refine below_set ?_ GE117.out | refine below_set ?_ GE118.out) | exact HB.out)⟩⟩
     case round =>
      clear H'
      try clear c1
      try clear p1
      try clear q1
      try clear hx1
      try clear qi1
      try clear p2
      try clear c3
      try clear c4
      try clear c5
      try clear c6
      try clear p6
      try clear c7
      try clear c8
      try clear q8
      try clear c9
      try clear c10
      try clear q10
      try clear c12
      try clear c12b0
      try clear c15
      try clear c15b0
      try clear c15b1
      try clear p15
      try clear q15
      try clear hx15
      try clear qi15
      try clear p16
      try clear q16
      try clear hx16
      try clear qi16
      try clear c17
      try clear c17b0
      try clear c17b1
      try clear c31
      try clear c32
      try clear c34
      try clear c39
      try clear c39b0
      try clear c39b1
      try clear c41
      try clear c41b0
      try clear c41b1
      try clear c42
      try clear c44
      try clear c45
      try clear c47
      try clear c55
      try clear c56
      try clear c58
      try clear c63
      try clear c63b0
      try clear c63b1
      try clear c64
      try clear c64b0
      try clear c64b1
      try clear p64
      try clear c65
      try clear c65b0
      try clear c65b1
      try clear c67
      try clear c67b0
      try clear c67b1
      try clear c69
      try clear c70
      try clear c82
      try clear q82
      try clear c84
      try clear c85
      try clear c88
      try clear c88b0
      try clear c88b1
      try clear c89
      try clear c89b0
      try clear c89b1
      try clear c91
      try clear c91b0
      try clear c91b1
      try clear c93
      try clear c94
      try clear c106
      try clear q106
      try clear c108
      try clear c109
      try clear hcz110_0
      try clear hcz110_1
      try clear hcz110_2
      try clear hcz110_3
      try clear hcz110_4
      try clear hcz110_5
      try clear hcz110_6
      try clear hcz33_0
      try clear hcz33_1
      try clear hcz33_2
      try clear hcz33_3
      try clear hcz33_4
      try clear hcz33_5
      try clear hcz33_6
      try clear hcz35_0
      try clear hcz35_1
      try clear hcz35_2
      try clear hcz35_3
      try clear hcz35_4
      try clear hcz37_0
      try clear hcz37_1
      try clear hcz37_2
      try clear hcz37_3
      try clear hcz37_4
      try clear hcz37_5
      try clear hcz37_6
      try clear hcz46_0
      try clear hcz46_1
      try clear hcz46_2
      try clear hcz46_3
      try clear hcz46_4
      try clear hcz46_5
      try clear hcz46_6
      try clear hcz48_0
      try clear hcz48_1
      try clear hcz48_2
      try clear hcz48_3
      try clear hcz48_4
      try clear hcz50_0
      try clear hcz50_1
      try clear hcz50_2
      try clear hcz50_3
      try clear hcz50_4
      try clear hcz50_5
      try clear hcz50_6
      try clear hcz52_0
      try clear hcz52_1
      try clear hcz52_2
      try clear hcz52_3
      try clear hcz52_4
      try clear hcz57_0
      try clear hcz57_1
      try clear hcz57_2
      try clear hcz57_3
      try clear hcz57_4
      try clear hcz57_5
      try clear hcz57_6
      try clear hcz59_0
      try clear hcz59_1
      try clear hcz59_2
      try clear hcz59_3
      try clear hcz59_4
      try clear hcz61_0
      try clear hcz61_1
      try clear hcz61_2
      try clear hcz61_3
      try clear hcz61_4
      try clear hcz61_5
      try clear hcz61_6
      try clear hcz71_0
      try clear hcz71_1
      try clear hcz71_2
      try clear hcz71_3
      try clear hcz71_4
      try clear hcz71_5
      try clear hcz71_6
      try clear hcz86_0
      try clear hcz86_1
      try clear hcz86_2
      try clear hcz86_3
      try clear hcz86_4
      try clear hcz86_5
      try clear hcz86_6
      try clear hcz95_0
      try clear hcz95_1
      try clear hcz95_2
      try clear hcz95_3
      try clear hcz95_4
      try clear hcz95_5
      try clear hcz95_6
      try clear hfz110_0
      try clear hfz110_1
      try clear hfz110_2
      try clear hfz110_3
      try clear hfz110_4
      try clear hfz110_5
      try clear hfz110_6
      try clear hfz33_0
      try clear hfz33_1
      try clear hfz33_2
      try clear hfz33_3
      try clear hfz33_4
      try clear hfz33_5
      try clear hfz33_6
      try clear hfz35_0
      try clear hfz35_1
      try clear hfz35_2
      try clear hfz35_3
      try clear hfz35_4
      try clear hfz37_0
      try clear hfz37_1
      try clear hfz37_2
      try clear hfz37_3
      try clear hfz37_4
      try clear hfz37_5
      try clear hfz37_6
      try clear hfz46_0
      try clear hfz46_1
      try clear hfz46_2
      try clear hfz46_3
      try clear hfz46_4
      try clear hfz46_5
      try clear hfz46_6
      try clear hfz48_0
      try clear hfz48_1
      try clear hfz48_2
      try clear hfz48_3
      try clear hfz48_4
      try clear hfz50_0
      try clear hfz50_1
      try clear hfz50_2
      try clear hfz50_3
      try clear hfz50_4
      try clear hfz50_5
      try clear hfz50_6
      try clear hfz52_0
      try clear hfz52_1
      try clear hfz52_2
      try clear hfz52_3
      try clear hfz52_4
      try clear hfz57_0
      try clear hfz57_1
      try clear hfz57_2
      try clear hfz57_3
      try clear hfz57_4
      try clear hfz57_5
      try clear hfz57_6
      try clear hfz59_0
      try clear hfz59_1
      try clear hfz59_2
      try clear hfz59_3
      try clear hfz59_4
      try clear hfz61_0
      try clear hfz61_1
      try clear hfz61_2
      try clear hfz61_3
      try clear hfz61_4
      try clear hfz61_5
      try clear hfz61_6
      try clear hfz71_0
      try clear hfz71_1
      try clear hfz71_2
      try clear hfz71_3
      try clear hfz71_4
      try clear hfz71_5
      try clear hfz71_6
      try clear hfz86_0
      try clear hfz86_1
      try clear hfz86_2
      try clear hfz86_3
      try clear hfz86_4
      try clear hfz86_5
      try clear hfz86_6
      try clear hfz95_0
      try clear hfz95_1
      try clear hfz95_2
      try clear hfz95_3
      try clear hfz95_4
      try clear hfz95_5
      try clear hfz95_6
      try clear hx152_0
      try clear hx152_1
      try clear hx165_0
      try clear hx165_1
      try clear p152
      try clear p165
      try clear q106
      try clear q152
      try clear q165
      try clear q82
      obtain ⟨x10_2, x119000_2, x119001_2, x119002_2, x119003_2, x119004_2, rfl, HA, HK2, HO_5, HO_6, BK117, BK118, HB⟩ := hrel
      cases gk with
      | zero => exact absurd HA.out (by simp [laws_FnTwo.l1])
      | succ k2 =>
       have H := HA.out
       clear HA
       simp only [laws_FnTwo.l1] at H
       by_cases c112 : x10_2 < (x5_1.length : Int)
       ·
        rw [if_pos c112] at H
        have c112b0 : decide (x10_2 < (x5_1.length : Int)) = true := decide_eq_true c112
        clear c112
        by_cases c113 : 0 ≤ x10_2
        ·
         rw [if_pos c113] at H
         have c113b0 : decide (0 ≤ x10_2) = true := decide_eq_true c113
         clear c113
         replace H := Option.bind_eq_some_iff.mp H
         obtain ⟨⟨t179, t180, t181, t182, t183, t184, t187⟩, A1140, H⟩ := H
         replace H : (laws_FnTwo.l1 k2 x5_1 x6_1 (wrap64 (x10_2 + 1)) x118000_1 x118001_1 x118002_1 x118003_1 x118004_1 t179 t180 t181 t182 t183) = some r := H
         have A114 := Aside0.mk A1140
         clear A1140
         have H' := Aside0.mk H
         clear H
         obtain ⟨Ao115, co115, eo115, _⟩ := Kd.Q_slice HO_5.out
         subst eo115
         try go_wp2
         have n0_ := Aside0.mk (Kd.Q_drew HO_5.out)
         have n1_ := Aside0.mk (Kd.Q_drew HO_6.out)
         have n2_ := Aside0.mk (blk_drew BK117.out)
         have n3_ := Aside0.mk (blk_drew BK118.out)
         have n4_ := Aside0.mk (below_drew1 HB.out)
         clear HO_5
         clear HO_6
         clear BK117
         clear BK118
         clear HB
         have HO_5 := n0_
         have HO_6 := n1_
         have BK117 := n2_
         have BK118 := n3_
         have HB := n4_
         clear n0_ n1_ n2_ n3_ n4_
         have p178 : 0 ≤ (x10_2 : Int) := of_decide_eq_true zb21_3
         have q178 : x10_2 < (x5_1.length : Int) := of_decide_eq_true zb21_3
         obtain ⟨ad178, e178, hx178_0, hx178_1⟩ := at_T32 (Kd.Q_reads' HO_5.out).2.2 x10_2 p178 q178
         cases e178
         replace p178 := eq_true p178
         replace q178 := eq_true q178
         refine start_ (n := 8) (S := fun w' => w'.cell? ⟨gb118, 0, none⟩ = some (.int .i64 x119000_2) ∧ w'.cell? ⟨gb118, 1, none⟩ = some (.int .i64 x119001_2) ∧ w'.cell? ⟨gb118, 2, none⟩ = some (.int .i64 x119002_2) ∧ w'.cell? ⟨gb118, 3, none⟩ = some (.int .i64 x119003_2) ∧ w'.cell? ⟨gb118, 4, none⟩ = some (.int .i64 x119004_2) ∧ w'.cell? (ad178.add ((x10_2).toNat * 2)) = some (.int .i64 ((rd_T32 x5_1 x10_2).f0)) ∧ w'.cell? ⟨(ad178.add ((x10_2).toNat * 2)).block, (ad178.add ((x10_2).toNat * 2)).off + 1, none⟩ = some (.int .i64 ((rd_T32 x5_1 x10_2).f1))) (ds := [7]) zm8 (by kernel_rfl) rfl rfl ⟨(blk_cell BK118.out 0).trans rfl, (blk_cell BK118.out 1).trans rfl, (blk_cell BK118.out 2).trans rfl, (blk_cell BK118.out 3).trans rfl, (blk_cell BK118.out 4).trans rfl, hx178_0, hx178_1⟩ (fun hHeld => ?_); refine with_tabW laws_FnTwo.tab31 laws_FnTwo.bits31 (fun HT_ HW_ => ?_)
         generalize wr.drew = w116 at HO_5 HO_6 BK117 BK118 HB hx178_0 hx178_1 hHeld ⊢
         refine zp 1 (some 94) zm9 HT_ ?_
         refine zp 2 (some 95) zm10 HT_ ?_
         refine zp 3 (some 96) zm11 HT_ ?_
         refine take_ (i := 0) (N := some 93) (v := ?_) (a' := ?_) zm12 rfl rfl (take_ofW HT_.out HW_.out (by kernel_rfl)) (fun _ _ _ h => h) (Or.inl ⟨by rfl, ?_⟩) hHeld ?_ ?_
         rotate_left
         ·
          rintro w' ⟨s0, s1, s2, s3, s4, s5, s6⟩
          go_simp
          with_reducible rfl
         rotate_left
         ·
          simp only [Act.put, List.setIfInBounds_toArray, List.set_cons_zero, List.set_cons_succ, i64_w, i32_w]
          rfl
         refine take_ (i := 4) (N := some 97) (v := ?_) (a' := ?_) zm13 rfl rfl (take_ofW HT_.out HW_.out (by kernel_rfl)) (fun _ _ _ h => h) (Or.inl ⟨by rfl, ?_⟩) hHeld ?_ ?_
         rotate_left
         ·
          rintro w' ⟨s0, s1, s2, s3, s4, s5, s6⟩
          go_simp
          with_reducible rfl
         rotate_left
         ·
          simp only [Act.put, List.setIfInBounds_toArray, List.set_cons_zero, List.set_cons_succ, i64_w, i32_w]
          rfl
         refine one_ (i := 5) (N := some 98) zm14 rfl rfl (one_of HT_.out (by kernel_rfl)) (by decide) (fun K hK => ?_)
         refine goes_ Try.func6 (by kernel_rfl) rfl #[.agg #[.int .i64 x119000_2, .int .i64 x119001_2, .int .i64 x119002_2, .int .i64 x119003_2, .int .i64 x119004_2], .agg #[.int .i64 ((rd_T32 x5_1 x10_2).f0), .int .i64 ((rd_T32 x5_1 x10_2).f1)]] (by rfl) rfl rfl zb6_3 ?_
         with_reducible refine (impl_HalfHear.calls x119000_2 x119001_2 x119002_2 x119003_2 x119004_2 ((rd_T32 x5_1 x10_2).f0) ((rd_T32 x5_1 x10_2).f1) t179 t180 t181 t182 t183 t184 t187 _ A114.out).mono ?_
         rintro e w117 ⟨v185, rfl, ho0, hb⟩
         have HS5_ := (hb.cell (World.block_lt_of_cell? _ _ (hHeld.2.2.2.2.2.1))).trans (hHeld.2.2.2.2.2.1)
         have HS6_ := (hb.cell (World.block_lt_of_cell? _ _ (hHeld.2.2.2.2.2.2))).trans (hHeld.2.2.2.2.2.2)
         refine ⟨_, rfl, ?_⟩
         have n0_ := Aside0.mk (Kd.Q_elder' zb7_3 (Kd.R_base ho0) hb)
         have n1_ := Aside0.mk (Kd.Q_elder' zb8_3 (Kd.R_base ho0) hb)
         have n2_ := Aside0.mk (Kd.R_lower (Kd.R_new' (Kd.R_new' ho0 (Kd.Q_lt zb7_3)) (Kd.Q_lt zb8_3)) (below_size zb3_3))
         have n3_ := Aside0.mk (blk_below (g := gb117) (o := .cells #[.int .i64 x118000_1, .int .i64 x118001_1, .int .i64 x118002_1, .int .i64 x118003_1, .int .i64 x118004_1] 24 (0, 0)) zb1_3 hb)
         have n4_ := Aside0.mk (blk_below (g := gb118) (o := .cells #[.int .i64 x119000_2, .int .i64 x119001_2, .int .i64 x119002_2, .int .i64 x119003_2, .int .i64 x119004_2] 24 (0, 0)) zb4_3 hb)
         have n5_ := Aside0.mk (below_step zb3_3 hb)
         clear HO_5
         clear HO_6
         clear BK117
         clear BK118
         clear HB
         have HO_5 := n0_
         have HO_6 := n1_
         have HO186 := n2_
         have BK117 := n3_
         have BK118 := n4_
         have HB := n5_
         clear n0_ n1_ n2_ n3_ n4_ n5_
         (try clear hb)
         (try clear hb2)
         (try clear hk)
         (try clear hi)
         (try clear ho0)
         refine hK.out _ _ ⟨(blk_cell BK118.out 0).trans rfl, (blk_cell BK118.out 1).trans rfl, (blk_cell BK118.out 2).trans rfl, (blk_cell BK118.out 3).trans rfl, (blk_cell BK118.out 4).trans rfl, HS5_, HS6_⟩ (fun hHeld => ?_)
         clear hK K
         refine norm_ (a' := ?_) ?_ ?_
         rotate_left
         ·
          show Act.put _ (some 98) _ = _
          simp only [Act.put, List.setIfInBounds_toArray, List.set_cons_zero, List.set_cons_succ, i64_w, i32_w]
          rfl
         refine zp 6 (some 99) zm15 HT_ ?_
         refine last_ (i := 7) (N := none) zm16 rfl rfl (one_of HT_.out (by kernel_rfl)) (by decide) (fun K hK => ?_)
         have hs118 : w117.cell? ⟨gb118, 0, none⟩ = some (.int .i64 x119000_2) := (blk_cell BK118.out 0).trans rfl
         have hfs118 := blk_frozen BK118.out 0
         have hns118_0 := NB117_118.out
         have hms118_0 := NB118_117.out
         have hs119 : w117.cell? ⟨gb118, 1, none⟩ = some (.int .i64 x119001_2) := (blk_cell BK118.out 1).trans rfl
         have hfs119 := blk_frozen BK118.out 1
         have hns119_0 := NB117_118.out
         have hms119_0 := NB118_117.out
         have hs120 : w117.cell? ⟨gb118, 2, none⟩ = some (.int .i64 x119002_2) := (blk_cell BK118.out 2).trans rfl
         have hfs120 := blk_frozen BK118.out 2
         have hns120_0 := NB117_118.out
         have hms120_0 := NB118_117.out
         have hs121 : w117.cell? ⟨gb118, 3, none⟩ = some (.int .i64 x119003_2) := (blk_cell BK118.out 3).trans rfl
         have hfs121 := blk_frozen BK118.out 3
         have hns121_0 := NB117_118.out
         have hms121_0 := NB118_117.out
         have hs122 : w117.cell? ⟨gb118, 4, none⟩ = some (.int .i64 x119004_2) := (blk_cell BK118.out 4).trans rfl
         have hfs122 := blk_frozen BK118.out 4
         have hns122_0 := NB117_118.out
         have hms122_0 := NB118_117.out
         refine skip_ (w1 := ?_) (by rfl) rfl ?_ ?_
         rotate_left
         ·
          go_simp
          rfl
         refine hK.out _ _ ?_
         clear hK K
         refine done_ (done_of HT_.out (by kernel_rfl)) ?_
         try go_wp2
         go_roundg k2
         case measure => have := HK1.out; have := HK2.out; omega
         case rel => exact ⟨(wrap64 (x10_2 + 1)), (t179), (t180), (t181), (t182), (t183), zb5_3, H', ⟨by have := HK1.out; have := HK2.out; omega⟩, ⟨by (with_reducible repeat (first | apply Kd.Q_alloc | apply Kd.Q_drewN | apply Kd.Q_drew)); exact Kd.Q_mono (Kd.Q_far (p := ⟨gb118, 4, none⟩) (Kd.Q_far (p := ⟨gb118, 3, none⟩) (Kd.Q_far (p := ⟨gb118, 2, none⟩) (Kd.Q_far (p := ⟨gb118, 1, none⟩) (Kd.Q_far (p := ⟨gb118, 0, none⟩) (Kd.Q_types HO_5.out BK118.out (by decide)) (fun _ hk => hk.2) (.int .i64 t179)) (fun _ hk => hk.2) (.int .i64 t180)) (fun _ hk => hk.2) (.int .i64 t181)) (fun _ hk => hk.2) (.int .i64 t182)) (fun _ hk => hk.2) (.int .i64 t183)) (fun _ hk => hk.1.1)⟩, ⟨by (with_reducible repeat (first | apply Kd.Q_alloc | apply Kd.Q_drewN | apply Kd.Q_drew)); exact Kd.Q_mono (Kd.Q_far (p := ⟨gb118, 4, none⟩) (Kd.Q_far (p := ⟨gb118, 3, none⟩) (Kd.Q_far (p := ⟨gb118, 2, none⟩) (Kd.Q_far (p := ⟨gb118, 1, none⟩) (Kd.Q_far (p := ⟨gb118, 0, none⟩) (Kd.Q_types HO_6.out BK118.out (by decide)) (fun _ hk => hk.2) (.int .i64 t179)) (fun _ hk => hk.2) (.int .i64 t180)) (fun _ hk => hk.2) (.int .i64 t181)) (fun _ hk => hk.2) (.int .i64 t182)) (fun _ hk => hk.2) (.int .i64 t183)) (fun _ hk => hk.1.1)⟩, ⟨by (with_reducible repeat (first | refine blk_drewN ?_ _ | refine blk_drew ?_ | refine blk_alloc ?_ _)); refine blk_far ?_ NB117_118.out _; (with_reducible repeat (first | refine blk_drewN ?_ _ | refine blk_drew ?_ | refine blk_alloc ?_ _)); refine blk_far ?_ NB117_118.out _; (with_reducible repeat (first | refine blk_drewN ?_ _ | refine blk_drew ?_ | refine blk_alloc ?_ _)); refine blk_far ?_ NB117_118.out _; (with_reducible repeat (first | refine blk_drewN ?_ _ | refine blk_drew ?_ | refine blk_alloc ?_ _)); refine blk_far ?_ NB117_118.out _; (with_reducible repeat (first | refine blk_drewN ?_ _ | refine blk_drew ?_ | refine blk_alloc ?_ _)); refine blk_far ?_ NB117_118.out _; (with_reducible repeat (first | refine blk_drewN ?_ _ | refine blk_drew ?_ | refine blk_alloc ?_ _)); exact BK117.out⟩, ⟨by (with_reducible repeat (first | refine blk_drewN ?_ _ | refine blk_drew ?_ | refine blk_alloc ?_ _)); refine blk_put (cs := #[.int .i64 t179, .int .i64 t180, .int .i64 t181, .int .i64 t182, .int .i64 x119004_2]) ?_ 4 _ rfl; (with_reducible repeat (first | refine blk_drewN ?_ _ | refine blk_drew ?_ | refine blk_alloc ?_ _)); refine blk_put (cs := #[.int .i64 t179, .int .i64 t180, .int .i64 t181, .int .i64 x119003_2, .int .i64 x119004_2]) ?_ 3 _ rfl; (with_reducible repeat (first | refine blk_drewN ?_ _ | refine blk_drew ?_ | refine blk_alloc ?_ _)); refine blk_put (cs := #[.int .i64 t179, .int .i64 t180, .int .i64 x119002_2, .int .i64 x119003_2, .int .i64 x119004_2]) ?_ 2 _ rfl; (with_reducible repeat (first | refine blk_drewN ?_ _ | refine blk_drew ?_ | refine blk_alloc ?_ _)); refine blk_put (cs := #[.int .i64 t179, .int .i64 x119001_2, .int .i64 x119002_2, .int .i64 x119003_2, .int .i64 x119004_2]) ?_ 1 _ rfl; (with_reducible repeat (first | refine blk_drewN ?_ _ | refine blk_drew ?_ | refine blk_alloc ?_ _)); refine blk_put (cs := #[.int .i64 x119000_2, .int .i64 x119001_2, .int .i64 x119002_2, .int .i64 x119003_2, .int .i64 x119004_2]) ?_ 0 _ rfl; (with_reducible repeat (first | refine blk_drewN ?_ _ | refine blk_drew ?_ | refine blk_alloc ?_ _)); exact BK118.out⟩, ⟨by repeat (first | (with_reducible first | exact HB.out | apply below_alloc | apply pw_below_drewN | apply below_drew1 | refine below_set ?_ GE117.out | refine below_set ?_ GE118.out) | exact HB.out)⟩⟩
        ·
         rw [if_neg c113] at H
         exact absurd H (by simp)
       ·
        rw [if_neg c112] at H
        have c112b0 : decide (x10_2 < (x5_1.length : Int)) = false := decide_eq_false c112
        clear c112
        have H' := Aside0.mk H
        clear H
        obtain ⟨Ao123, co123, eo123, _⟩ := Kd.Q_slice HO_5.out
        subst eo123
        go_wp2
        go_loopg [11] k2 (fun kq v11 w' => ∃ (x11_3 : Int) (x118000_3 : Int) (x118001_3 : Int) (x118002_3 : Int) (x118003_3 : Int) (x118004_3 : Int), v11 = .int .i64 x11_3 ∧ Aside0 (laws_FnTwo.l2 kq x6_1 x11_3 x118000_3 x118001_3 x118002_3 x118003_3 x118004_3 x119000_2 x119001_2 x119002_2 x119003_2 x119004_2 = some r) ∧ Aside0 (kq ≤ k2) ∧ Aside0 (Kd.Q k32 32 w' w.heap.size (fun _ => True) u6 x6_1) ∧ Aside0 (w'.heap[gb117]? = some (.cells #[.int .i64 x118000_3, .int .i64 x118001_3, .int .i64 x118002_3, .int .i64 x118003_3, .int .i64 x118004_3] 24 (0, 0))) ∧ Aside0 (w'.heap[gb118]? = some (.cells #[.int .i64 x119000_2, .int .i64 x119001_2, .int .i64 x119002_2, .int .i64 x119003_2, .int .i64 x119004_2] 24 (0, 0))) ∧ Aside0 (Below w.heap.size w w'))
        case atStart => exact ⟨(0), (x118000_1), (x118001_1), (x118002_1), (x118003_1), (x118004_1), zb5_3, H', ⟨Nat.le_refl _⟩, ⟨by (with_reducible repeat (first | apply Kd.Q_alloc | apply Kd.Q_drewN | apply Kd.Q_drew)); exact Kd.Q_mono HO_6.out (fun _ hk => trivial)⟩, ⟨by (with_reducible repeat (first | refine blk_drewN ?_ _ | refine blk_drew ?_ | refine blk_alloc ?_ _)); exact BK117.out⟩, ⟨by (with_reducible repeat (first | refine blk_drewN ?_ _ | refine blk_drew ?_ | refine blk_alloc ?_ _)); exact BK118.out⟩, ⟨by repeat (first | (with_reducible first | exact HB.out | apply below_alloc | apply pw_below_drewN | apply below_drew1 | refine below_set ?_ GE117.out | refine below_set ?_ GE118.out) | exact HB.out)⟩⟩
        case round =>
         clear H'
         try clear c1
         try clear p1
         try clear q1
         try clear hx1
         try clear qi1
         try clear p2
         try clear c3
         try clear c4
         try clear c5
         try clear c6
         try clear p6
         try clear c7
         try clear c8
         try clear q8
         try clear c9
         try clear c10
         try clear q10
         try clear c11
         try clear c12
         try clear c12b0
         try clear c15
         try clear c15b0
         try clear c15b1
         try clear p15
         try clear q15
         try clear hx15
         try clear qi15
         try clear p16
         try clear q16
         try clear hx16
         try clear qi16
         try clear c17
         try clear c17b0
         try clear c17b1
         try clear p17
         try clear q17
         try clear hx17
         try clear c31
         try clear c32
         try clear c34
         try clear c39
         try clear c39b0
         try clear c39b1
         try clear c41
         try clear c41b0
         try clear c41b1
         try clear c42
         try clear c44
         try clear c45
         try clear c47
         try clear c55
         try clear c56
         try clear c58
         try clear c63
         try clear c63b0
         try clear c63b1
         try clear c64
         try clear c64b0
         try clear c64b1
         try clear p64
         try clear c65
         try clear c65b0
         try clear c65b1
         try clear c67
         try clear c67b0
         try clear c67b1
         try clear c69
         try clear c70
         try clear c82
         try clear q82
         try clear c84
         try clear c85
         try clear c88
         try clear c88b0
         try clear c88b1
         try clear c89
         try clear c89b0
         try clear c89b1
         try clear c91
         try clear c91b0
         try clear c91b1
         try clear c93
         try clear c94
         try clear c106
         try clear q106
         try clear c108
         try clear c109
         try clear c112
         try clear c112b0
         try clear c113
         try clear c113b0
         try clear hcz110_0
         try clear hcz110_1
         try clear hcz110_2
         try clear hcz110_3
         try clear hcz110_4
         try clear hcz110_5
         try clear hcz110_6
         try clear hcz33_0
         try clear hcz33_1
         try clear hcz33_2
         try clear hcz33_3
         try clear hcz33_4
         try clear hcz33_5
         try clear hcz33_6
         try clear hcz35_0
         try clear hcz35_1
         try clear hcz35_2
         try clear hcz35_3
         try clear hcz35_4
         try clear hcz37_0
         try clear hcz37_1
         try clear hcz37_2
         try clear hcz37_3
         try clear hcz37_4
         try clear hcz37_5
         try clear hcz37_6
         try clear hcz46_0
         try clear hcz46_1
         try clear hcz46_2
         try clear hcz46_3
         try clear hcz46_4
         try clear hcz46_5
         try clear hcz46_6
         try clear hcz48_0
         try clear hcz48_1
         try clear hcz48_2
         try clear hcz48_3
         try clear hcz48_4
         try clear hcz50_0
         try clear hcz50_1
         try clear hcz50_2
         try clear hcz50_3
         try clear hcz50_4
         try clear hcz50_5
         try clear hcz50_6
         try clear hcz52_0
         try clear hcz52_1
         try clear hcz52_2
         try clear hcz52_3
         try clear hcz52_4
         try clear hcz57_0
         try clear hcz57_1
         try clear hcz57_2
         try clear hcz57_3
         try clear hcz57_4
         try clear hcz57_5
         try clear hcz57_6
         try clear hcz59_0
         try clear hcz59_1
         try clear hcz59_2
         try clear hcz59_3
         try clear hcz59_4
         try clear hcz61_0
         try clear hcz61_1
         try clear hcz61_2
         try clear hcz61_3
         try clear hcz61_4
         try clear hcz61_5
         try clear hcz61_6
         try clear hcz71_0
         try clear hcz71_1
         try clear hcz71_2
         try clear hcz71_3
         try clear hcz71_4
         try clear hcz71_5
         try clear hcz71_6
         try clear hcz86_0
         try clear hcz86_1
         try clear hcz86_2
         try clear hcz86_3
         try clear hcz86_4
         try clear hcz86_5
         try clear hcz86_6
         try clear hcz95_0
         try clear hcz95_1
         try clear hcz95_2
         try clear hcz95_3
         try clear hcz95_4
         try clear hcz95_5
         try clear hcz95_6
         try clear hfz110_0
         try clear hfz110_1
         try clear hfz110_2
         try clear hfz110_3
         try clear hfz110_4
         try clear hfz110_5
         try clear hfz110_6
         try clear hfz33_0
         try clear hfz33_1
         try clear hfz33_2
         try clear hfz33_3
         try clear hfz33_4
         try clear hfz33_5
         try clear hfz33_6
         try clear hfz35_0
         try clear hfz35_1
         try clear hfz35_2
         try clear hfz35_3
         try clear hfz35_4
         try clear hfz37_0
         try clear hfz37_1
         try clear hfz37_2
         try clear hfz37_3
         try clear hfz37_4
         try clear hfz37_5
         try clear hfz37_6
         try clear hfz46_0
         try clear hfz46_1
         try clear hfz46_2
         try clear hfz46_3
         try clear hfz46_4
         try clear hfz46_5
         try clear hfz46_6
         try clear hfz48_0
         try clear hfz48_1
         try clear hfz48_2
         try clear hfz48_3
         try clear hfz48_4
         try clear hfz50_0
         try clear hfz50_1
         try clear hfz50_2
         try clear hfz50_3
         try clear hfz50_4
         try clear hfz50_5
         try clear hfz50_6
         try clear hfz52_0
         try clear hfz52_1
         try clear hfz52_2
         try clear hfz52_3
         try clear hfz52_4
         try clear hfz57_0
         try clear hfz57_1
         try clear hfz57_2
         try clear hfz57_3
         try clear hfz57_4
         try clear hfz57_5
         try clear hfz57_6
         try clear hfz59_0
         try clear hfz59_1
         try clear hfz59_2
         try clear hfz59_3
         try clear hfz59_4
         try clear hfz61_0
         try clear hfz61_1
         try clear hfz61_2
         try clear hfz61_3
         try clear hfz61_4
         try clear hfz61_5
         try clear hfz61_6
         try clear hfz71_0
         try clear hfz71_1
         try clear hfz71_2
         try clear hfz71_3
         try clear hfz71_4
         try clear hfz71_5
         try clear hfz71_6
         try clear hfz86_0
         try clear hfz86_1
         try clear hfz86_2
         try clear hfz86_3
         try clear hfz86_4
         try clear hfz86_5
         try clear hfz86_6
         try clear hfz95_0
         try clear hfz95_1
         try clear hfz95_2
         try clear hfz95_3
         try clear hfz95_4
         try clear hfz95_5
         try clear hfz95_6
         try clear hx152_0
         try clear hx152_1
         try clear hx165_0
         try clear hx165_1
         try clear hx178_0
         try clear hx178_1
         try clear p1
         try clear p15
         try clear p152
         try clear p16
         try clear p165
         try clear p178
         try clear p2
         try clear p6
         try clear p64
         try clear q1
         try clear q10
         try clear q106
         try clear q15
         try clear q152
         try clear q16
         try clear q165
         try clear q178
         try clear q8
         try clear q82
         obtain ⟨x11_3, x118000_3, x118001_3, x118002_3, x118003_3, x118004_3, rfl, HA, HK3, HO_6, BK117, BK118, HB⟩ := hrel
         cases gk with
         | zero => exact absurd HA.out (by simp [laws_FnTwo.l2])
         | succ k3 =>
          have H := HA.out
          clear HA
          simp only [laws_FnTwo.l2] at H
          by_cases c124 : x11_3 < (x6_1.length : Int)
          ·
           rw [if_pos c124] at H
           have c124b0 : decide (x11_3 < (x6_1.length : Int)) = true := decide_eq_true c124
           clear c124
           by_cases c125 : 0 ≤ x11_3
           ·
            rw [if_pos c125] at H
            have c125b0 : decide (0 ≤ x11_3) = true := decide_eq_true c125
            clear c125
            replace H := Option.bind_eq_some_iff.mp H
            obtain ⟨⟨t189, t190, t191, t192, t193, t194, t197⟩, A1260, H⟩ := H
            replace H : (laws_FnTwo.l2 k3 x6_1 (wrap64 (x11_3 + 1)) t189 t190 t191 t192 t193 x119000_2 x119001_2 x119002_2 x119003_2 x119004_2) = some r := H
            have A126 := Aside0.mk A1260
            clear A1260
            have H' := Aside0.mk H
            clear H
            obtain ⟨Ao127, co127, eo127, _⟩ := Kd.Q_slice HO_6.out
            subst eo127
            try go_wp2
            have n0_ := Aside0.mk (Kd.Q_drew HO_6.out)
            have n1_ := Aside0.mk (blk_drew BK117.out)
            have n2_ := Aside0.mk (blk_drew BK118.out)
            have n3_ := Aside0.mk (below_drew1 HB.out)
            clear HO_6
            clear BK117
            clear BK118
            clear HB
            have HO_6 := n0_
            have BK117 := n1_
            have BK118 := n2_
            have HB := n3_
            clear n0_ n1_ n2_ n3_
            have p188 : 0 ≤ (x11_3 : Int) := of_decide_eq_true zb21_3
            have q188 : x11_3 < (x6_1.length : Int) := of_decide_eq_true zb21_3
            obtain ⟨ad188, e188, hx188_0, hx188_1⟩ := at_T32 (Kd.Q_reads' HO_6.out).2.2 x11_3 p188 q188
            cases e188
            replace p188 := eq_true p188
            replace q188 := eq_true q188
            refine start_ (n := 8) (S := fun w' => w'.cell? ⟨gb117, 0, none⟩ = some (.int .i64 x118000_3) ∧ w'.cell? ⟨gb117, 1, none⟩ = some (.int .i64 x118001_3) ∧ w'.cell? ⟨gb117, 2, none⟩ = some (.int .i64 x118002_3) ∧ w'.cell? ⟨gb117, 3, none⟩ = some (.int .i64 x118003_3) ∧ w'.cell? ⟨gb117, 4, none⟩ = some (.int .i64 x118004_3) ∧ w'.cell? (ad188.add ((x11_3).toNat * 2)) = some (.int .i64 ((rd_T32 x6_1 x11_3).f0)) ∧ w'.cell? ⟨(ad188.add ((x11_3).toNat * 2)).block, (ad188.add ((x11_3).toNat * 2)).off + 1, none⟩ = some (.int .i64 ((rd_T32 x6_1 x11_3).f1))) (ds := [7]) zm8 (by kernel_rfl) rfl rfl ⟨(blk_cell BK117.out 0).trans rfl, (blk_cell BK117.out 1).trans rfl, (blk_cell BK117.out 2).trans rfl, (blk_cell BK117.out 3).trans rfl, (blk_cell BK117.out 4).trans rfl, hx188_0, hx188_1⟩ (fun hHeld => ?_); refine with_tabW laws_FnTwo.tab35 laws_FnTwo.bits35 (fun HT_ HW_ => ?_)
            generalize wr.drew = w128 at HO_6 BK117 BK118 HB hx188_0 hx188_1 hHeld ⊢
            refine zp 1 (some 107) zm9 HT_ ?_
            refine zp 2 (some 108) zm10 HT_ ?_
            refine zp 3 (some 109) zm11 HT_ ?_
            refine take_ (i := 0) (N := some 106) (v := ?_) (a' := ?_) zm12 rfl rfl (take_ofW HT_.out HW_.out (by kernel_rfl)) (fun _ _ _ h => h) (Or.inl ⟨by rfl, ?_⟩) hHeld ?_ ?_
            rotate_left
            ·
             rintro w' ⟨s0, s1, s2, s3, s4, s5, s6⟩
             go_simp
             with_reducible rfl
            rotate_left
            ·
             simp only [Act.put, List.setIfInBounds_toArray, List.set_cons_zero, List.set_cons_succ, i64_w, i32_w]
             rfl
            refine take_ (i := 4) (N := some 110) (v := ?_) (a' := ?_) zm13 rfl rfl (take_ofW HT_.out HW_.out (by kernel_rfl)) (fun _ _ _ h => h) (Or.inl ⟨by rfl, ?_⟩) hHeld ?_ ?_
            rotate_left
            ·
             rintro w' ⟨s0, s1, s2, s3, s4, s5, s6⟩
             go_simp
             with_reducible rfl
            rotate_left
            ·
             simp only [Act.put, List.setIfInBounds_toArray, List.set_cons_zero, List.set_cons_succ, i64_w, i32_w]
             rfl
            refine one_ (i := 5) (N := some 111) zm14 rfl rfl (one_of HT_.out (by kernel_rfl)) (by decide) (fun K hK => ?_)
            refine goes_ Try.func6 (by kernel_rfl) rfl #[.agg #[.int .i64 x118000_3, .int .i64 x118001_3, .int .i64 x118002_3, .int .i64 x118003_3, .int .i64 x118004_3], .agg #[.int .i64 ((rd_T32 x6_1 x11_3).f0), .int .i64 ((rd_T32 x6_1 x11_3).f1)]] (by rfl) rfl rfl zb6_3 ?_
            with_reducible refine (impl_HalfHear.calls x118000_3 x118001_3 x118002_3 x118003_3 x118004_3 ((rd_T32 x6_1 x11_3).f0) ((rd_T32 x6_1 x11_3).f1) t189 t190 t191 t192 t193 t194 t197 _ A126.out).mono ?_
            rintro e w129 ⟨v195, rfl, ho0, hb⟩
            have HS5_ := (hb.cell (World.block_lt_of_cell? _ _ (hHeld.2.2.2.2.2.1))).trans (hHeld.2.2.2.2.2.1)
            have HS6_ := (hb.cell (World.block_lt_of_cell? _ _ (hHeld.2.2.2.2.2.2))).trans (hHeld.2.2.2.2.2.2)
            refine ⟨_, rfl, ?_⟩
            have n0_ := Aside0.mk (Kd.Q_elder' zb8_3 (Kd.R_base ho0) hb)
            have n1_ := Aside0.mk (Kd.R_lower (Kd.R_new' ho0 (Kd.Q_lt zb8_3)) (below_size zb3_3))
            have n2_ := Aside0.mk (blk_below (g := gb117) (o := .cells #[.int .i64 x118000_3, .int .i64 x118001_3, .int .i64 x118002_3, .int .i64 x118003_3, .int .i64 x118004_3] 24 (0, 0)) zb1_3 hb)
            have n3_ := Aside0.mk (blk_below (g := gb118) (o := .cells #[.int .i64 x119000_2, .int .i64 x119001_2, .int .i64 x119002_2, .int .i64 x119003_2, .int .i64 x119004_2] 24 (0, 0)) zb4_3 hb)
            have n4_ := Aside0.mk (below_step zb3_3 hb)
            clear HO_6
            clear BK117
            clear BK118
            clear HB
            have HO_6 := n0_
            have HO196 := n1_
            have BK117 := n2_
            have BK118 := n3_
            have HB := n4_
            clear n0_ n1_ n2_ n3_ n4_
            (try clear hb)
            (try clear hb2)
            (try clear hk)
            (try clear hi)
            (try clear ho0)
            refine hK.out _ _ ⟨(blk_cell BK117.out 0).trans rfl, (blk_cell BK117.out 1).trans rfl, (blk_cell BK117.out 2).trans rfl, (blk_cell BK117.out 3).trans rfl, (blk_cell BK117.out 4).trans rfl, HS5_, HS6_⟩ (fun hHeld => ?_)
            clear hK K
            refine norm_ (a' := ?_) ?_ ?_
            rotate_left
            ·
             show Act.put _ (some 111) _ = _
             simp only [Act.put, List.setIfInBounds_toArray, List.set_cons_zero, List.set_cons_succ, i64_w, i32_w]
             rfl
            refine zp 6 (some 112) zm15 HT_ ?_
            refine last_ (i := 7) (N := none) zm16 rfl rfl (one_of HT_.out (by kernel_rfl)) (by decide) (fun K hK => ?_)
            have hs130 : w129.cell? ⟨gb117, 0, none⟩ = some (.int .i64 x118000_3) := (blk_cell BK117.out 0).trans rfl
            have hfs130 := blk_frozen BK117.out 0
            have hns130_1 := NB118_117.out
            have hms130_1 := NB117_118.out
            have hs131 : w129.cell? ⟨gb117, 1, none⟩ = some (.int .i64 x118001_3) := (blk_cell BK117.out 1).trans rfl
            have hfs131 := blk_frozen BK117.out 1
            have hns131_1 := NB118_117.out
            have hms131_1 := NB117_118.out
            have hs132 : w129.cell? ⟨gb117, 2, none⟩ = some (.int .i64 x118002_3) := (blk_cell BK117.out 2).trans rfl
            have hfs132 := blk_frozen BK117.out 2
            have hns132_1 := NB118_117.out
            have hms132_1 := NB117_118.out
            have hs133 : w129.cell? ⟨gb117, 3, none⟩ = some (.int .i64 x118003_3) := (blk_cell BK117.out 3).trans rfl
            have hfs133 := blk_frozen BK117.out 3
            have hns133_1 := NB118_117.out
            have hms133_1 := NB117_118.out
            have hs134 : w129.cell? ⟨gb117, 4, none⟩ = some (.int .i64 x118004_3) := (blk_cell BK117.out 4).trans rfl
            have hfs134 := blk_frozen BK117.out 4
            have hns134_1 := NB118_117.out
            have hms134_1 := NB117_118.out
            refine skip_ (w1 := ?_) (by rfl) rfl ?_ ?_
            rotate_left
            ·
             go_simp
             rfl
            refine hK.out _ _ ?_
            clear hK K
            refine done_ (done_of HT_.out (by kernel_rfl)) ?_
            try go_wp2
            go_roundg k3
            case measure => have := HK1.out; have := HK2.out; have := HK3.out; omega
            case rel => exact ⟨(wrap64 (x11_3 + 1)), (t189), (t190), (t191), (t192), (t193), zb5_3, H', ⟨by have := HK1.out; have := HK2.out; have := HK3.out; omega⟩, ⟨by (with_reducible repeat (first | apply Kd.Q_alloc | apply Kd.Q_drewN | apply Kd.Q_drew)); exact Kd.Q_mono (Kd.Q_far (p := ⟨gb117, 4, none⟩) (Kd.Q_far (p := ⟨gb117, 3, none⟩) (Kd.Q_far (p := ⟨gb117, 2, none⟩) (Kd.Q_far (p := ⟨gb117, 1, none⟩) (Kd.Q_far (p := ⟨gb117, 0, none⟩) (Kd.Q_types HO_6.out BK117.out (by decide)) (fun _ hk => hk.2) (.int .i64 t189)) (fun _ hk => hk.2) (.int .i64 t190)) (fun _ hk => hk.2) (.int .i64 t191)) (fun _ hk => hk.2) (.int .i64 t192)) (fun _ hk => hk.2) (.int .i64 t193)) (fun _ hk => trivial)⟩, ⟨by (with_reducible repeat (first | refine blk_drewN ?_ _ | refine blk_drew ?_ | refine blk_alloc ?_ _)); refine blk_put (cs := #[.int .i64 t189, .int .i64 t190, .int .i64 t191, .int .i64 t192, .int .i64 x118004_3]) ?_ 4 _ rfl; (with_reducible repeat (first | refine blk_drewN ?_ _ | refine blk_drew ?_ | refine blk_alloc ?_ _)); refine blk_put (cs := #[.int .i64 t189, .int .i64 t190, .int .i64 t191, .int .i64 x118003_3, .int .i64 x118004_3]) ?_ 3 _ rfl; (with_reducible repeat (first | refine blk_drewN ?_ _ | refine blk_drew ?_ | refine blk_alloc ?_ _)); refine blk_put (cs := #[.int .i64 t189, .int .i64 t190, .int .i64 x118002_3, .int .i64 x118003_3, .int .i64 x118004_3]) ?_ 2 _ rfl; (with_reducible repeat (first | refine blk_drewN ?_ _ | refine blk_drew ?_ | refine blk_alloc ?_ _)); refine blk_put (cs := #[.int .i64 t189, .int .i64 x118001_3, .int .i64 x118002_3, .int .i64 x118003_3, .int .i64 x118004_3]) ?_ 1 _ rfl; (with_reducible repeat (first | refine blk_drewN ?_ _ | refine blk_drew ?_ | refine blk_alloc ?_ _)); refine blk_put (cs := #[.int .i64 x118000_3, .int .i64 x118001_3, .int .i64 x118002_3, .int .i64 x118003_3, .int .i64 x118004_3]) ?_ 0 _ rfl; (with_reducible repeat (first | refine blk_drewN ?_ _ | refine blk_drew ?_ | refine blk_alloc ?_ _)); exact BK117.out⟩, ⟨by (with_reducible repeat (first | refine blk_drewN ?_ _ | refine blk_drew ?_ | refine blk_alloc ?_ _)); refine blk_far ?_ NB118_117.out _; (with_reducible repeat (first | refine blk_drewN ?_ _ | refine blk_drew ?_ | refine blk_alloc ?_ _)); refine blk_far ?_ NB118_117.out _; (with_reducible repeat (first | refine blk_drewN ?_ _ | refine blk_drew ?_ | refine blk_alloc ?_ _)); refine blk_far ?_ NB118_117.out _; (with_reducible repeat (first | refine blk_drewN ?_ _ | refine blk_drew ?_ | refine blk_alloc ?_ _)); refine blk_far ?_ NB118_117.out _; (with_reducible repeat (first | refine blk_drewN ?_ _ | refine blk_drew ?_ | refine blk_alloc ?_ _)); refine blk_far ?_ NB118_117.out _; (with_reducible repeat (first | refine blk_drewN ?_ _ | refine blk_drew ?_ | refine blk_alloc ?_ _)); exact BK118.out⟩, ⟨by repeat (first | (with_reducible first | exact HB.out | apply below_alloc | apply pw_below_drewN | apply below_drew1 | refine below_set ?_ GE117.out | refine below_set ?_ GE118.out) | exact HB.out)⟩⟩
           ·
            rw [if_neg c125] at H
            exact absurd H (by simp)
          ·
           rw [if_neg c124] at H
           have c124b0 : decide (x11_3 < (x6_1.length : Int)) = false := decide_eq_false c124
           clear c124
           replace H := Option.bind_eq_some_iff.mp H
           obtain ⟨⟨t198, t199, t200, t201, t202, t203, t206⟩, A1350, H⟩ := H
           replace H : ((laws_lwSame.f x118000_3 x118001_3 x118002_3 x118003_3 x118004_3 x119000_2 x119001_2 x119002_2 x119003_2 x119004_2).bind fun t208 => (if t208 = true then (if t206 = 0 then (some (t199 == 1)) else (some false)) else (some false))) = some r := H
           have A135 := Aside0.mk A1350
           clear A1350
           replace H := Option.bind_eq_some_iff.mp H
           obtain ⟨t208, A1360, H⟩ := H
           replace H : (if t208 = true then (if t206 = 0 then (some (t199 == 1)) else (some false)) else (some false)) = some r := H
           have A136 := Aside0.mk A1360
           clear A1360
           by_cases c137 : t208 = true
           ·
            subst c137
            have H1 : (if t206 = 0 then (some (t199 == 1)) else (some false)) = some r := by rw [if_pos rfl] at H; exact H
            clear H
            have H := H1
            clear H1
            by_cases c138 : t206 = 0
            ·
             rw [if_pos c138] at H
             have c138b0 : (t206 == 0) = true := beq_iff_eq.mpr c138
             have c138b1 : (t206 != 0) = false := bne_eq_false_iff_eq.mpr c138
             clear c138
             obtain rfl := Option.some.inj H
             obtain ⟨Ao139, co139, eo139, _⟩ := Kd.Q_slice HO_6.out
             subst eo139
             go_wp2_with (first | ((with_reducible refine gate_callee (f := 5) rfl ?_); refine goesL_ (some 114) rfl rfl Try.func5 (by kernel_rfl) rfl #[.agg #[.int .i64 0, .int .i64 0, .int .i64 0, .int .i64 0, .int .i64 0], .int .i64 1] rfl zb6_3 ?_; (with_reducible refine (impl_HalfSay.calls 0 0 0 0 0 1 t198 t199 t200 t201 t202 t203 t206 _ A135.out).mono ?_); rintro e w140 ⟨v204, rfl, ho0, hb⟩; refine ⟨_, rfl, ?_⟩; have n0_ := Aside0.mk (Kd.Q_elder' zb8_3 (Kd.R_base ho0) hb); have n1_ := Aside0.mk (Kd.R_lower (Kd.R_new' ho0 (Kd.Q_lt zb8_3)) (below_size zb3_3)); have n2_ := Aside0.mk (blk_below (g := gb117) (o := .cells #[.int .i64 x118000_3, .int .i64 x118001_3, .int .i64 x118002_3, .int .i64 x118003_3, .int .i64 x118004_3] 24 (0, 0)) zb1_3 hb); have n3_ := Aside0.mk (blk_below (g := gb118) (o := .cells #[.int .i64 x119000_2, .int .i64 x119001_2, .int .i64 x119002_2, .int .i64 x119003_2, .int .i64 x119004_2] 24 (0, 0)) zb4_3 hb); have n4_ := Aside0.mk (below_step zb3_3 hb); clear HO_6; clear BK117; clear BK118; clear HB; have HO_6 := n0_; have HO205 := n1_; have BK117 := n2_; have BK118 := n3_; have HB := n4_; clear n0_ n1_ n2_ n3_ n4_; (try clear hb); (try clear hb2); (try clear hk); (try clear hi); (try clear ho0)) | ((with_reducible refine gate_dst (N := 12) rfl ?_); refine box_event ?hg (N := 12) ?hd (cs := #[.int .i64 0, .int .i64 0, .int .i64 0, .int .i64 0, .int .i64 0, .slice none 0 0, .int .i64 0]) (t := 28) ?hr ?_; (case hd => rfl); (case hg => rfl); (case hr => first | (go_simp; done) | (go_simp; rfl)); intro gb207 hg w141 hbox hb; have n0_ := Aside0.mk (Kd.Q_below zb8_3 hb); have n1_ := Aside0.mk (Kd.R_below (by (with_reducible repeat (first | apply Kd.R_alloc | apply Kd.R_drewN | apply Kd.R_drew)); exact HO205.out) hb); have n2_ := Aside0.mk (blk_below (g := gb117) (o := .cells #[.int .i64 x118000_3, .int .i64 x118001_3, .int .i64 x118002_3, .int .i64 x118003_3, .int .i64 x118004_3] 24 (0, 0)) zb1_3 hb); have n3_ := Aside0.mk (blk_below (g := gb118) (o := .cells #[.int .i64 x119000_2, .int .i64 x119001_2, .int .i64 x119002_2, .int .i64 x119003_2, .int .i64 x119004_2] 24 (0, 0)) zb4_3 hb); have n4_ := Aside0.mk (below_step zb3_3 hb); have n5_ := Aside0.mk (hbox); have n6_ := Aside0.mk ((zb9_3 : w.heap.size ≤ gb207)); have n7_ := Aside0.mk ((zb9_3 : w.heap.size ≤ gb207)); have n8_ := Aside0.mk ((by rw [hg]; exact Nat.ne_of_lt (blk_lt (g := gb117) (o := .cells #[.int .i64 x118000_3, .int .i64 x118001_3, .int .i64 x118002_3, .int .i64 x118003_3, .int .i64 x118004_3] 24 (0, 0)) zb1_3) : gb117 ≠ gb207)); have n9_ := Aside0.mk ((by rw [hg]; exact Nat.ne_of_gt (blk_lt (g := gb117) (o := .cells #[.int .i64 x118000_3, .int .i64 x118001_3, .int .i64 x118002_3, .int .i64 x118003_3, .int .i64 x118004_3] 24 (0, 0)) zb1_3) : gb207 ≠ gb117)); have n10_ := Aside0.mk ((by rw [hg]; exact Nat.ne_of_lt (blk_lt (g := gb118) (o := .cells #[.int .i64 x119000_2, .int .i64 x119001_2, .int .i64 x119002_2, .int .i64 x119003_2, .int .i64 x119004_2] 24 (0, 0)) zb4_3) : gb118 ≠ gb207)); have n11_ := Aside0.mk ((by rw [hg]; exact Nat.ne_of_gt (blk_lt (g := gb118) (o := .cells #[.int .i64 x119000_2, .int .i64 x119001_2, .int .i64 x119002_2, .int .i64 x119003_2, .int .i64 x119004_2] 24 (0, 0)) zb4_3) : gb207 ≠ gb118)); clear HO_6; clear HO205; clear BK117; clear BK118; clear HB; have HO_6 := n0_; have HO205 := n1_; have BK117 := n2_; have BK118 := n3_; have HB := n4_; have BK207 := n5_; have GW207 := n6_; have GE207 := n7_; have NB117_207 := n8_; have NB207_117 := n9_; have NB118_207 := n10_; have NB207_118 := n11_; clear n0_ n1_ n2_ n3_ n4_ n5_ n6_ n7_ n8_ n9_ n10_ n11_; clear hb hbox hg; have hnb142 := NB207_117.out; have hnc142 := NB117_207.out; have hnb143 := NB207_118.out; have hnc143 := NB118_207.out; have hcz144_0 := bcq_3 BK207.out 0; have hcz144_1 := bcq_3 BK207.out 1; have hcz144_2 := bcq_3 BK207.out 2; have hcz144_3 := bcq_3 BK207.out 3; have hcz144_4 := bcq_3 BK207.out 4; have hcz144_5 := bcq_3 BK207.out 5; have hcz144_6 := bcq_3 BK207.out 6; have hfz144_0 := blk_frozen BK207.out 0; have hfz144_1 := blk_frozen BK207.out 1; have hfz144_2 := blk_frozen BK207.out 2; have hfz144_3 := blk_frozen BK207.out 3; have hfz144_4 := blk_frozen BK207.out 4; have hfz144_5 := blk_frozen BK207.out 5; have hfz144_6 := blk_frozen BK207.out 6; obtain ⟨Ao145, co145, eo145⟩ := Kd.R_slice HO205.out; subst eo145; have hnb146 := NB117_118.out; have hnc146 := NB118_117.out; have hcz147_0 := bcq_3 BK117.out 0; have hcz147_1 := bcq_3 BK117.out 1; have hcz147_2 := bcq_3 BK117.out 2; have hcz147_3 := bcq_3 BK117.out 3; have hcz147_4 := bcq_3 BK117.out 4; have hfz147_0 := blk_frozen BK117.out 0; have hfz147_1 := blk_frozen BK117.out 1; have hfz147_2 := blk_frozen BK117.out 2; have hfz147_3 := blk_frozen BK117.out 3; have hfz147_4 := blk_frozen BK117.out 4; have hcz148_0 := bcq_3 BK118.out 0; have hcz148_1 := bcq_3 BK118.out 1; have hcz148_2 := bcq_3 BK118.out 2; have hcz148_3 := bcq_3 BK118.out 3; have hcz148_4 := bcq_3 BK118.out 4; have hfz148_0 := blk_frozen BK118.out 0; have hfz148_1 := blk_frozen BK118.out 1; have hfz148_2 := blk_frozen BK118.out 2; have hfz148_3 := blk_frozen BK118.out 3; have hfz148_4 := blk_frozen BK118.out 4) | ((with_reducible refine gate_callee (f := 7) rfl ?_); refine goesL_ (some 117) rfl rfl Try.func7 (by kernel_rfl) rfl #[.agg #[.int .i64 x118000_3, .int .i64 x118001_3, .int .i64 x118002_3, .int .i64 x118003_3, .int .i64 x118004_3], .agg #[.int .i64 x119000_2, .int .i64 x119001_2, .int .i64 x119002_2, .int .i64 x119003_2, .int .i64 x119004_2]] rfl zb6_3 ?_; (with_reducible refine (laws_lwSame.calls x118000_3 x118001_3 x118002_3 x118003_3 x118004_3 x119000_2 x119001_2 x119002_2 x119003_2 x119004_2 true _ A136.out).mono ?_); rintro e w149 ⟨rfl, hb⟩; refine ⟨_, rfl, ?_⟩; have n0_ := Aside0.mk (Kd.Q_below (by (with_reducible repeat (first | apply Kd.Q_alloc | apply Kd.Q_drewN | apply Kd.Q_drew)); exact (Kd.Q_mono (Kd.Q_far (p := ⟨gb207, 6, none⟩) (Kd.Q_far (p := ⟨gb207, 5, none⟩) (Kd.Q_far (p := ⟨gb207, 4, none⟩) (Kd.Q_far (p := ⟨gb207, 3, none⟩) (Kd.Q_far (p := ⟨gb207, 2, none⟩) (Kd.Q_far (p := ⟨gb207, 1, none⟩) (Kd.Q_far (p := ⟨gb207, 0, none⟩) (Kd.Q_types HO_6.out BK207.out (by decide)) (fun _ hk => hk.2) (.int .i64 t198)) (fun _ hk => hk.2) (.int .i64 t199)) (fun _ hk => hk.2) (.int .i64 t200)) (fun _ hk => hk.2) (.int .i64 t201)) (fun _ hk => hk.2) (.int .i64 t202)) (fun _ hk => hk.2) (.slice Ao145 t203.length co145)) (fun _ hk => hk.2) (.int .i64 t206)) (fun _ h_ => h_.1))) hb); have n1_ := Aside0.mk (Kd.R_below (by (with_reducible repeat (first | apply Kd.R_alloc | apply Kd.R_drewN | apply Kd.R_drew)); exact (Kd.R_mono (Kd.R_far (p := ⟨gb207, 6, none⟩) (Kd.R_far (p := ⟨gb207, 5, none⟩) (Kd.R_far (p := ⟨gb207, 4, none⟩) (Kd.R_far (p := ⟨gb207, 3, none⟩) (Kd.R_far (p := ⟨gb207, 2, none⟩) (Kd.R_far (p := ⟨gb207, 1, none⟩) (Kd.R_far (p := ⟨gb207, 0, none⟩) (Kd.R_types HO205.out BK207.out (by decide)) (fun _ hk => hk.2) (.int .i64 t198)) (fun _ hk => hk.2) (.int .i64 t199)) (fun _ hk => hk.2) (.int .i64 t200)) (fun _ hk => hk.2) (.int .i64 t201)) (fun _ hk => hk.2) (.int .i64 t202)) (fun _ hk => hk.2) (.slice Ao145 t203.length co145)) (fun _ hk => hk.2) (.int .i64 t206)) (fun _ h_ => h_.1))) hb); have n2_ := Aside0.mk (blk_below (g := gb117) (o := .cells #[.int .i64 x118000_3, .int .i64 x118001_3, .int .i64 x118002_3, .int .i64 x118003_3, .int .i64 x118004_3] 24 (0, 0)) (by (with_reducible repeat (first | refine blk_drewN ?_ _ | refine blk_drew ?_ | refine blk_alloc ?_ _)); refine blk_far ?_ NB117_207.out _; (with_reducible repeat (first | refine blk_drewN ?_ _ | refine blk_drew ?_ | refine blk_alloc ?_ _)); refine blk_far ?_ NB117_207.out _; (with_reducible repeat (first | refine blk_drewN ?_ _ | refine blk_drew ?_ | refine blk_alloc ?_ _)); refine blk_far ?_ NB117_207.out _; (with_reducible repeat (first | refine blk_drewN ?_ _ | refine blk_drew ?_ | refine blk_alloc ?_ _)); refine blk_far ?_ NB117_207.out _; (with_reducible repeat (first | refine blk_drewN ?_ _ | refine blk_drew ?_ | refine blk_alloc ?_ _)); refine blk_far ?_ NB117_207.out _; (with_reducible repeat (first | refine blk_drewN ?_ _ | refine blk_drew ?_ | refine blk_alloc ?_ _)); refine blk_far ?_ NB117_207.out _; (with_reducible repeat (first | refine blk_drewN ?_ _ | refine blk_drew ?_ | refine blk_alloc ?_ _)); refine blk_far ?_ NB117_207.out _; (with_reducible repeat (first | refine blk_drewN ?_ _ | refine blk_drew ?_ | refine blk_alloc ?_ _)); exact BK117.out) hb); have n3_ := Aside0.mk (blk_below (g := gb118) (o := .cells #[.int .i64 x119000_2, .int .i64 x119001_2, .int .i64 x119002_2, .int .i64 x119003_2, .int .i64 x119004_2] 24 (0, 0)) (by (with_reducible repeat (first | refine blk_drewN ?_ _ | refine blk_drew ?_ | refine blk_alloc ?_ _)); refine blk_far ?_ NB118_207.out _; (with_reducible repeat (first | refine blk_drewN ?_ _ | refine blk_drew ?_ | refine blk_alloc ?_ _)); refine blk_far ?_ NB118_207.out _; (with_reducible repeat (first | refine blk_drewN ?_ _ | refine blk_drew ?_ | refine blk_alloc ?_ _)); refine blk_far ?_ NB118_207.out _; (with_reducible repeat (first | refine blk_drewN ?_ _ | refine blk_drew ?_ | refine blk_alloc ?_ _)); refine blk_far ?_ NB118_207.out _; (with_reducible repeat (first | refine blk_drewN ?_ _ | refine blk_drew ?_ | refine blk_alloc ?_ _)); refine blk_far ?_ NB118_207.out _; (with_reducible repeat (first | refine blk_drewN ?_ _ | refine blk_drew ?_ | refine blk_alloc ?_ _)); refine blk_far ?_ NB118_207.out _; (with_reducible repeat (first | refine blk_drewN ?_ _ | refine blk_drew ?_ | refine blk_alloc ?_ _)); refine blk_far ?_ NB118_207.out _; (with_reducible repeat (first | refine blk_drewN ?_ _ | refine blk_drew ?_ | refine blk_alloc ?_ _)); exact BK118.out) hb); have n4_ := Aside0.mk (blk_below (g := gb207) (o := .cells #[.int .i64 t198, .int .i64 t199, .int .i64 t200, .int .i64 t201, .int .i64 t202, .slice Ao145 t203.length co145, .int .i64 t206] 28 (0, 0)) (by (with_reducible repeat (first | refine blk_drewN ?_ _ | refine blk_drew ?_ | refine blk_alloc ?_ _)); refine blk_put (cs := #[.int .i64 t198, .int .i64 t199, .int .i64 t200, .int .i64 t201, .int .i64 t202, .slice Ao145 t203.length co145, .int .i64 0]) ?_ 6 _ rfl; (with_reducible repeat (first | refine blk_drewN ?_ _ | refine blk_drew ?_ | refine blk_alloc ?_ _)); refine blk_put (cs := #[.int .i64 t198, .int .i64 t199, .int .i64 t200, .int .i64 t201, .int .i64 t202, .slice none 0 0, .int .i64 0]) ?_ 5 _ rfl; (with_reducible repeat (first | refine blk_drewN ?_ _ | refine blk_drew ?_ | refine blk_alloc ?_ _)); refine blk_put (cs := #[.int .i64 t198, .int .i64 t199, .int .i64 t200, .int .i64 t201, .int .i64 0, .slice none 0 0, .int .i64 0]) ?_ 4 _ rfl; (with_reducible repeat (first | refine blk_drewN ?_ _ | refine blk_drew ?_ | refine blk_alloc ?_ _)); refine blk_put (cs := #[.int .i64 t198, .int .i64 t199, .int .i64 t200, .int .i64 0, .int .i64 0, .slice none 0 0, .int .i64 0]) ?_ 3 _ rfl; (with_reducible repeat (first | refine blk_drewN ?_ _ | refine blk_drew ?_ | refine blk_alloc ?_ _)); refine blk_put (cs := #[.int .i64 t198, .int .i64 t199, .int .i64 0, .int .i64 0, .int .i64 0, .slice none 0 0, .int .i64 0]) ?_ 2 _ rfl; (with_reducible repeat (first | refine blk_drewN ?_ _ | refine blk_drew ?_ | refine blk_alloc ?_ _)); refine blk_put (cs := #[.int .i64 t198, .int .i64 0, .int .i64 0, .int .i64 0, .int .i64 0, .slice none 0 0, .int .i64 0]) ?_ 1 _ rfl; (with_reducible repeat (first | refine blk_drewN ?_ _ | refine blk_drew ?_ | refine blk_alloc ?_ _)); refine blk_put (cs := #[.int .i64 0, .int .i64 0, .int .i64 0, .int .i64 0, .int .i64 0, .slice none 0 0, .int .i64 0]) ?_ 0 _ rfl; (with_reducible repeat (first | refine blk_drewN ?_ _ | refine blk_drew ?_ | refine blk_alloc ?_ _)); exact BK207.out) hb); have n5_ := Aside0.mk (below_step (by repeat (first | (with_reducible first | exact HB.out | apply below_alloc | apply pw_below_drewN | apply below_drew1 | refine below_set ?_ GE117.out | refine below_set ?_ GE118.out | refine below_set ?_ GE207.out) | exact HB.out)) hb); clear HO_6; clear HO205; clear BK117; clear BK118; clear BK207; clear HB; have HO_6 := n0_; have HO205 := n1_; have BK117 := n2_; have BK118 := n3_; have BK207 := n4_; have HB := n5_; clear n0_ n1_ n2_ n3_ n4_ n5_; (try clear hb); (try clear hb2); (try clear hk); (try clear hi); have hcz150_0 := bcq_3 BK207.out 0; have hcz150_1 := bcq_3 BK207.out 1; have hcz150_2 := bcq_3 BK207.out 2; have hcz150_3 := bcq_3 BK207.out 3; have hcz150_4 := bcq_3 BK207.out 4; have hcz150_5 := bcq_3 BK207.out 5; have hcz150_6 := bcq_3 BK207.out 6; have hfz150_0 := blk_frozen BK207.out 0; have hfz150_1 := blk_frozen BK207.out 1; have hfz150_2 := blk_frozen BK207.out 2; have hfz150_3 := blk_frozen BK207.out 3; have hfz150_4 := blk_frozen BK207.out 4; have hfz150_5 := blk_frozen BK207.out 5; have hfz150_6 := blk_frozen BK207.out 6))
             go_ret
             exact ⟨by first | rfl | (simp [errW_none, errW_some] <;> rfl) | (simp [*, errW_none, errW_some] <;> rfl), by repeat (first | (with_reducible first | exact HB.out | apply below_alloc | apply pw_below_drewN | apply below_drew1 | refine below_set ?_ GE117.out | refine below_set ?_ GE118.out | refine below_set ?_ GE207.out) | exact HB.out)⟩
            ·
             rw [if_neg c138] at H
             have c138b0 : (t206 == 0) = false := beq_eq_false_iff_ne.mpr c138
             have c138b1 : (t206 != 0) = true := bne_iff_ne.mpr c138
             exact absurd ((Option.some.inj H).trans hrt.out) (by decide)
           ·
            replace c137 := Bool.eq_false_iff.mpr c137
            subst c137
            have H1 : (some false) = some r := by rw [if_neg (show ¬ (false = true) by decide)] at H; exact H
            clear H
            have H := H1
            clear H1
            exact absurd ((Option.some.inj H).trans hrt.out) (by decide)

/-- THE ONE PURE STATEMENT of laws_FnTwo: yours. -/
def laws_FnTwo.Pure : Prop := ∀ (l0 : List Int), l0.length ≤ maxLen → l0.length * 1 ≤ 140737488351232 → (∀ x ∈ l0, (Lit.int .u8 x).wf = true) → ∃ k, laws_FnTwo.f k l0 = some true
theorem laws_FnTwo.walk (P : laws_FnTwo.Pure) (a0 : Option Addr) (len0 cap0 : Nat) (z0 : List Int) (w : World) (w0 : (a0 = none ∧ len0 = 0 ∧ cap0 = 0 ∧ z0 = []) ∨ ∃ x, a0 = some x ∧ len0 ≤ cap0 ∧ cap0 ≤ maxLen ∧ z0.length = cap0 ∧ (∀ i, i < z0.length → w.cell? (x.add i) = some (.int .u8 (z0.getD i 0))) ∧ ∀ n ∈ z0, (Lit.int .u8 n).wf = true) (y0 : len0 * 1 ≤ 140737488351232) :
  Calls Try.prog 3 #[.slice a0 len0 cap0] w fun e w' => e = .returned (.bool true) ∧ Below w.heap.size w w' := by
 obtain ⟨l0, rfl, hr0, hm0, hw0, hc0⟩ := ReadsInt.ofRowC w0
 obtain ⟨k, h⟩ := P l0 hm0 y0 hw0
 refine (laws_FnTwo.calls k _ _ l0 true w (Kd.C_of_reads (d := (0 : Int)) (h1 := fun _ => rfl) hr0) hc0 h rfl).mono ?_
 rintro e w' ⟨rfl, hd⟩
 exact ⟨rfl, hd⟩

end Go.Proofs.Ytohohkgeaclgjaa.QFnTwo
