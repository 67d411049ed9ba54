-- laid by this session's own runner (wip/print2.py): not a printed file
import Derived.Test.YtjchggdekbnmnaaDoorQFnExactDbResultx0
import Derived.Test.YtjchggdekbnmnaaDoorQFnExactDbResultx6
import Derived.Test.YtjchggdekbnmnaaDoorQFnExactDbResultx8
namespace Go.Proofs.YtjchggdekbnmnaaDoor.QFnExactDbResult
open Go.RowKit Go.Proofs.YtjchggdekbnmnaaDoorW.PrintWords Go.Proofs.YtjchggdekbnmnaaDoorW.PrintLast Go.Proofs.YtjchggdekbnmnaaDoorW.PrintMore
attribute [local go_sem] max2_int min2_int max_two min_two max_three min_three max_four min_four   -- for this text's walks alone
set_option linter.unusedVariables false
set_option linter.unusedSimpArgs false

theorem zp_9 {P : Program} {md : Region.Mode} {ops : Array Oper} {Q : Exit → Act → World → Prop} {S : World → Prop} {ds : List Nat} {T : Bool × List (List Nat × List Nat)} {fuel : Nat} {l : Array Bool} {a : Act} {w : World} {oi : Oper} {v : Value} {a' : Act} (i : Nat) (N : Option Tmp) (l' : Array Bool) (hT : Aside0 (rtab md ops = T))
    (h : wpAnyLast P md ops Q S ds fuel l' a' w) (hc : anyT T l.toList l'.toList i = true := by kernel_rfl) (hi : ops[i]? = some oi := by rfl) (hN : oi.dst = N := by rfl) (hQ : ∀ c a w, Q (.panic c) (a.put oi.dst v) w → Q (.panic c) a w := by exact fun _ _ _ h => h)
    (hy : Yields P ops oi v a := by (refine Or.inl ⟨by rfl, ?_⟩; intro w'; go_simp; with_reducible rfl)) (ha : a.put N v = a' := by (simp only [Act.put, List.setIfInBounds_toArray, List.set_cons_zero, List.set_cons_succ, i64_w, i32_w]; rfl)) : wpAnyLast P md ops Q S ds (fuel + 1) l a w :=
  pure_ l' hi hN (any_of hT.out hc) hQ hy ha h
theorem zu_9 {P : Program} {md : Region.Mode} {ops : Array Oper} {Q : Exit → Act → World → Prop} {S : World → Prop} {ds : List Nat} {T : Bool × List (List Nat × List Nat)} {fuel : Nat} {l : Array Bool} {a : Act} {w : World} {oi : Oper} {a' : Act} (i : Nat) (N : Option Tmp) (l' : Array Bool) (hT : Aside0 (rtab md ops = T))
    (h : wpAnyLast P md ops Q S ds fuel l' a' w) (hc : anyT T l.toList l'.toList i = true := by kernel_rfl) (hi : ops[i]? = some oi := by rfl) (hN : oi.dst = N := by rfl) (hQ : ∀ c a w, Q (.panic c) (a.put oi.dst undef) w → Q (.panic c) a w := by exact fun _ _ _ h => h)
    (hy : Yields P ops oi undef a := by exact Or.inr ⟨by rfl, rfl⟩) (ha : a.put N undef = a' := by (simp only [Act.put, List.setIfInBounds_toArray, List.set_cons_zero, List.set_cons_succ, i64_w, i32_w]; rfl)) : wpAnyLast P md ops Q S ds (fuel + 1) l a w :=
  pure_ l' hi hN (any_of hT.out hc) hQ hy ha h
abbrev zm0_9 : Array Bool := #[false, false, false, false, false, false, false, false, false, false, false, false, false, false, false, false, false, false, false, false, false, false, false, false, false, false, false, false, false]
abbrev zm1_9 : Array Bool := #[true, false, false, false, false, false, false, false, false, false, false, false, false, false, false, false, false, false, false, false, false, false, false, false, false, false, false, false, false]
abbrev zm2_9 : Array Bool := #[true, false, true, false, false, false, false, false, false, false, false, false, false, false, false, false, false, false, false, false, false, false, false, false, false, false, false, false, false]
abbrev zm3_9 : Array Bool := #[true, true, true, false, false, false, false, false, false, false, false, false, false, false, false, false, false, false, false, false, false, false, false, false, false, false, false, false, false]
abbrev zm4_9 : Array Bool := #[true, true, true, true, false, false, false, false, false, false, false, false, false, false, false, false, false, false, false, false, false, false, false, false, false, false, false, false, false]
abbrev zm5_9 : Array Bool := #[true, true, true, true, true, false, false, false, false, false, false, false, false, false, false, false, false, false, false, false, false, false, false, false, false, false, false, false, false]
abbrev zm6_9 : Array Bool := #[true, true, true, true, true, true, false, false, false, false, false, false, false, false, false, false, false, false, false, false, false, false, false, false, false, false, false, false, false]
abbrev zm7_9 : Array Bool := #[true, true, true, true, true, true, true, false, false, false, false, false, false, false, false, false, false, false, false, false, false, false, false, false, false, false, false, false, false]
abbrev zm8_9 : Array Bool := #[true, true, true, true, true, true, true, true, false, false, false, false, false, false, false, false, false, false, false, false, false, false, false, false, false, false, false, false, false]
abbrev zm9_9 : Array Bool := #[true, true, true, true, true, true, true, true, true, false, false, false, false, false, false, false, false, false, false, false, false, false, false, false, false, false, false, false, false]
abbrev zm10_9 : Array Bool := #[true, true, true, true, true, true, true, true, true, true, false, false, false, false, false, false, false, false, false, false, false, false, false, false, false, false, false, false, false]
abbrev zm11_9 : Array Bool := #[true, true, true, true, true, true, true, true, true, true, true, false, false, false, false, false, false, false, false, false, false, false, false, false, false, false, false, false, false]
abbrev zm12_9 : Array Bool := #[true, true, true, true, true, true, true, true, true, true, true, true, false, false, false, false, false, false, false, false, false, false, false, false, false, false, false, false, false]
abbrev zm13_9 : Array Bool := #[true, true, true, true, true, true, true, true, true, true, true, true, false, true, false, false, false, false, false, false, false, false, false, false, false, false, false, false, false]
abbrev zm14_9 : Array Bool := #[true, true, true, true, true, true, true, true, true, true, true, true, false, true, true, false, false, false, false, false, false, false, false, false, false, false, false, false, false]
abbrev zm15_9 : Array Bool := #[true, true, true, true, true, true, true, true, true, true, true, true, false, true, true, false, false, false, true, false, false, false, false, false, false, false, false, false, false]
abbrev zm16_9 : Array Bool := #[true, true, true, true, true, true, true, true, true, true, true, true, true, true, true, false, false, false, true, false, false, false, false, false, false, false, false, false, false]
abbrev zm17_9 : Array Bool := #[true, true, true, true, true, true, true, true, true, true, true, true, true, true, true, true, false, false, true, false, false, false, false, false, false, false, false, false, false]
abbrev zm18_9 : Array Bool := #[true, true, true, true, true, true, true, true, true, true, true, true, true, true, true, true, true, false, true, false, false, false, false, false, false, false, false, false, false]
abbrev zm19_9 : Array Bool := #[true, true, true, true, true, true, true, true, true, true, true, true, true, true, true, true, true, true, true, false, false, false, false, false, false, false, false, false, false]
abbrev zm20_9 : Array Bool := #[true, true, true, true, true, true, true, true, true, true, true, true, true, true, true, true, true, true, true, true, false, false, false, false, false, false, false, false, false]
abbrev zm21_9 : Array Bool := #[true, true, true, true, true, true, true, true, true, true, true, true, true, true, true, true, true, true, true, true, true, false, false, false, false, false, false, false, false]
abbrev zm22_9 : Array Bool := #[true, true, true, true, true, true, true, true, true, true, true, true, true, true, true, true, true, true, true, true, true, true, false, false, false, false, false, false, false]
abbrev zm23_9 : Array Bool := #[true, true, true, true, true, true, true, true, true, true, true, true, true, true, true, true, true, true, true, true, true, true, true, false, false, false, false, false, false]
abbrev zm24_9 : Array Bool := #[true, true, true, true, true, true, true, true, true, true, true, true, true, true, true, true, true, true, true, true, true, true, true, true, false, false, false, false, false]
abbrev zm25_9 : Array Bool := #[true, true, true, true, true, true, true, true, true, true, true, true, true, true, true, true, true, true, true, true, true, true, true, true, true, false, false, false, false]
abbrev zm26_9 : Array Bool := #[true, true, true, true, true, true, true, true, true, true, true, true, true, true, true, true, true, true, true, true, true, true, true, true, true, true, false, false, false]
abbrev zm27_9 : Array Bool := #[true, true, true, true, true, true, true, true, true, true, true, true, true, true, true, true, true, true, true, true, true, true, true, true, true, true, true, false, false]
abbrev zm28_9 : Array Bool := #[true, true, true, true, true, true, true, true, true, true, true, true, true, true, true, true, true, true, true, true, true, true, true, true, true, true, true, true, false]
abbrev zm29_9 : Array Bool := #[true, true, true, true, true, true, true, true, true, true, true, true, true, true, true, true, true, true, true, true, true, true, true, true, true, true, true, true, true]
abbrev zm30_9 : Array Bool := #[true, true, true, true, true, true, true, true, true, true, true, true, true, false, false, false, false, false, false, false, false, false, false, false, false, false, false, false, false]
abbrev zm31_9 : Array Bool := #[true, true, true, true, true, true, true, true, true, true, true, true, true, true, false, false, false, false, false, false, false, false, false, false, false, false, false, false, false]
abbrev zm32_9 : Array Bool := #[true, true, true, true, true, true, true, true, true, true, true, true, true, true, true, false, false, false, false, false, false, false, false, false, false, false, false, false, false]
abbrev zm33_9 : Array Bool := #[true, true, true, true, true, true, true, true, true, true, true, true, true, true, true, true, false, false, false, false, false, false, false, false, false, false, false, false, false]
abbrev zm34_9 : Array Bool := #[true, true, true, true, true, true, true, true, true, true, true, true, true, true, true, true, true, false, false, false, false, false, false, false, false, false, false, false, false]
abbrev zm35_9 : Array Bool := #[true, true, true, true, true, true, true, true, true, true, true, true, true, true, true, true, true, true, false, false, false, false, false, false, false, false, false, false, false]
theorem bcq_9 {w : World} {g t : Nat} {cs : Array Value} {v : Value} (h : w.heap[g]? = some (.cells cs t (0, 0))) (j : Nat) (e : cs[j]? = some v := by rfl) : w.cell? ⟨g, j, none⟩ = some v := (blk_cell h j).trans e
theorem zb0_9 {P : Prop} (h : P := by repeat (first | (with_reducible first | exact HB.out | apply below_alloc | apply pw_below_drewN | apply below_drew1) | exact HB.out)) : P := h
theorem zb1_9 {P : Prop} (h : P := by (try simp only [List.map_toArray, List.map_cons, List.map_nil]); first | done | rfl | (simp only [List.length_drop, List.length_take]; rfl)) : P := h
theorem zb2_9 {P : Prop} (h : P := by first | exact hmx | exact hmx.below HB.out | exact hmx.below (by repeat (first | (with_reducible first | exact HB.out | apply below_alloc | apply pw_below_drewN | apply below_drew1 | refine below_set ?_ GE264.out | refine below_set ?_ GE268.out | exact Below.refl _ _) | exact HB.out | exact Below.refl _ _))) : P := h
theorem zb3_9 {P : Prop} (h : P := by (with_reducible repeat (first | refine blk_drewN ?_ _ | refine blk_drew ?_ | refine blk_alloc ?_ _)); exact BK264.out) : P := h
theorem zb4_9 {P : Prop} (h : P := by repeat (first | (with_reducible first | exact HB.out | apply below_alloc | apply pw_below_drewN | apply below_drew1 | refine below_set ?_ GE264.out) | exact HB.out)) : P := h
theorem zb5_9 {P : Prop} (h : P := by first | rfl | (simp; done) | (simp [*]; done)) : P := h
theorem zb6_9 {P : Prop} (h : P := by first | (with_reducible assumption) | assumption) : P := h
/-! ### impl_DialbackRight: function 18 -/
mutual
def impl_DialbackRight.j0 : Nat → Bool → ByteArray → Int → List (S71) → Option (Bool)
 | 0, _, _, _, _ => none
 | k + 1, x20, x265000, x265001, x265002 => if x20 = true then (some false) else (impl_DialbackRight.l0 k x265002 (x265002.length : Int) 0 x265000 x265001 x265002)
def impl_DialbackRight.l0 : Nat → List (S71) → Int → Int → ByteArray → Int → List (S71) → Option (Bool)
 | 0, _, _, _, _, _, _ => none
 | k + 1, x22, x23, x24, x265000, x265001, x265002 => if x24 < x23 then (if 0 ≤ x24 then (if x24 < (x22.length : Int) then ((impl_in.f ((rd_T71 x22 x24).f1) 1 (wrap64 (x265001 - 1))).bind fun t269 => (if t269 = true then (if x24 > 0 then (if 0 ≤ (wrap64 (x24 - 1)) then (if (wrap64 (x24 - 1)) < (x265002.length : Int) then (if ((rd_T71 x265002 (wrap64 (x24 - 1))).f1) ≥ ((rd_T71 x22 x24).f1) then (impl_DialbackRight.j2 k x22 x23 x24 true x265000 x265001 x265002 ((rd_T71 x22 x24).f0) ((rd_T71 x22 x24).f1) ((rd_T71 x22 x24).f2) ((rd_T71 x22 x24).f3)) else ((impl_isDomain.f k ((rd_T71 x22 x24).f0)).bind fun t271 => (impl_DialbackRight.j2 k x22 x23 x24 (!t271) x265000 x265001 x265002 ((rd_T71 x22 x24).f0) ((rd_T71 x22 x24).f1) ((rd_T71 x22 x24).f2) ((rd_T71 x22 x24).f3)))) else (none)) else (none)) else ((impl_isDomain.f k ((rd_T71 x22 x24).f0)).bind fun t272 => (impl_DialbackRight.j2 k x22 x23 x24 (!t272) x265000 x265001 x265002 ((rd_T71 x22 x24).f0) ((rd_T71 x22 x24).f1) ((rd_T71 x22 x24).f2) ((rd_T71 x22 x24).f3)))) else (impl_DialbackRight.j2 k x22 x23 x24 true x265000 x265001 x265002 ((rd_T71 x22 x24).f0) ((rd_T71 x22 x24).f1) ((rd_T71 x22 x24).f2) ((rd_T71 x22 x24).f3)))) else (none)) else (none)) else (some true)
def impl_DialbackRight.j2 : Nat → List (S71) → Int → Int → Bool → ByteArray → Int → List (S71) → ByteArray → Int → Int → ByteArray → Option (Bool)
 | 0, _, _, _, _, _, _, _, _, _, _, _ => none
 | k + 1, x22, x23, x24, x57, x265000, x265001, x265002, x269000, x269001, x269002, x269003 => if x57 = true then (some false) else ((impl_in.f x269002 0 3).bind fun t273 => (if t273 = true then (if (x269003.size : Int) > 64 then (some false) else (if ((x269003.toList == ([] : List UInt8)) != (x269002 == 0)) = true then (some false) else (impl_DialbackRight.l0 k x22 x23 (wrap64 (x24 + 1)) x265000 x265001 x265002))) else (some false)))
end
def impl_DialbackRight.f (k : Nat) (a0_0 : ByteArray) (a0_1 : Int) (l0_2 : List (S71)) : Option (Bool) := (impl_isDomain.f k a0_0).bind fun t265 => (if t265 = true then ((impl_isId.f a0_1).bind fun t266 => (if t266 = true then (impl_DialbackRight.j0 k (decide ((l0_2.length : Int) > 10)) a0_0 a0_1 l0_2) else (impl_DialbackRight.j0 k true a0_0 a0_1 l0_2))) else (impl_DialbackRight.j0 k true a0_0 a0_1 l0_2))
theorem impl_DialbackRight.mono_l : ∀ k, (∀ y0 y1 y2 y3, LeO (impl_DialbackRight.j0 k y0 y1 y2 y3) (impl_DialbackRight.j0 (k + 1) y0 y1 y2 y3)) ∧ (∀ y0 y1 y2 y3 y4 y5, LeO (impl_DialbackRight.l0 k y0 y1 y2 y3 y4 y5) (impl_DialbackRight.l0 (k + 1) y0 y1 y2 y3 y4 y5)) ∧ (∀ y0 y1 y2 y3 y4 y5 y6 y7 y8 y9 y10, LeO (impl_DialbackRight.j2 k y0 y1 y2 y3 y4 y5 y6 y7 y8 y9 y10) (impl_DialbackRight.j2 (k + 1) y0 y1 y2 y3 y4 y5 y6 y7 y8 y9 y10))
 | 0 => ⟨fun _ _ _ _ r h => by simp [impl_DialbackRight.j0] at h, fun _ _ _ _ _ _ r h => by simp [impl_DialbackRight.l0] at h, fun _ _ _ _ _ _ _ _ _ _ _ r h => by simp [impl_DialbackRight.j2] at h⟩
 | k + 1 => by
  obtain ⟨ih0, ih1, ih2⟩ := impl_DialbackRight.mono_l k
  refine ⟨?_, ?_, ?_⟩
  ·
   intro y0 y1 y2 y3
   unfold impl_DialbackRight.j0
   repeat' first
   | (with_reducible exact ih0 _ _ _ _)
   | (with_reducible exact ih1 _ _ _ _ _ _)
   | (with_reducible exact ih2 _ _ _ _ _ _ _ _ _ _ _)
   | (with_reducible exact impl_isDomain.mono _ _)
   | (with_reducible exact LeO.refl _)
   | (with_reducible exact LeO.none _)
   | (with_reducible refine LeO.ite ?_ ?_)
   | (with_reducible refine LeO.bind ?_ (fun _ => ?_))
   | exact ih0 _ _ _ _
   | exact ih1 _ _ _ _ _ _
   | exact ih2 _ _ _ _ _ _ _ _ _ _ _
   | exact impl_isDomain.mono _ _
   | exact LeO.none _
   | refine LeO.ite ?_ ?_
   | refine LeO.bind ?_ (fun _ => ?_)
  ·
   intro y0 y1 y2 y3 y4 y5
   unfold impl_DialbackRight.l0
   repeat' first
   | (with_reducible exact ih0 _ _ _ _)
   | (with_reducible exact ih1 _ _ _ _ _ _)
   | (with_reducible exact ih2 _ _ _ _ _ _ _ _ _ _ _)
   | (with_reducible exact impl_isDomain.mono _ _)
   | (with_reducible exact LeO.refl _)
   | (with_reducible exact LeO.none _)
   | (with_reducible refine LeO.ite ?_ ?_)
   | (with_reducible refine LeO.bind ?_ (fun _ => ?_))
   | exact ih0 _ _ _ _
   | exact ih1 _ _ _ _ _ _
   | exact ih2 _ _ _ _ _ _ _ _ _ _ _
   | exact impl_isDomain.mono _ _
   | exact LeO.none _
   | refine LeO.ite ?_ ?_
   | refine LeO.bind ?_ (fun _ => ?_)
  ·
   intro y0 y1 y2 y3 y4 y5 y6 y7 y8 y9 y10
   unfold impl_DialbackRight.j2
   repeat' first
   | (with_reducible exact ih0 _ _ _ _)
   | (with_reducible exact ih1 _ _ _ _ _ _)
   | (with_reducible exact ih2 _ _ _ _ _ _ _ _ _ _ _)
   | (with_reducible exact impl_isDomain.mono _ _)
   | (with_reducible exact LeO.refl _)
   | (with_reducible exact LeO.none _)
   | (with_reducible refine LeO.ite ?_ ?_)
   | (with_reducible refine LeO.bind ?_ (fun _ => ?_))
   | exact ih0 _ _ _ _
   | exact ih1 _ _ _ _ _ _
   | exact ih2 _ _ _ _ _ _ _ _ _ _ _
   | exact impl_isDomain.mono _ _
   | exact LeO.none _
   | refine LeO.ite ?_ ?_
   | refine LeO.bind ?_ (fun _ => ?_)
theorem impl_DialbackRight.mono : ∀ a0 a1 a2 k, LeO (impl_DialbackRight.f k a0 a1 a2) (impl_DialbackRight.f (k + 1) a0 a1 a2) := by
 intro a0 a1 a2 k
 obtain ⟨ih0, ih1, ih2⟩ := impl_DialbackRight.mono_l k
 unfold impl_DialbackRight.f
 repeat' first
   | (with_reducible exact ih0 _ _ _ _)
   | (with_reducible exact ih1 _ _ _ _ _ _)
   | (with_reducible exact ih2 _ _ _ _ _ _ _ _ _ _ _)
   | (with_reducible exact impl_isDomain.mono _ _)
   | (with_reducible exact LeO.refl _)
   | (with_reducible exact LeO.none _)
   | (with_reducible refine LeO.ite ?_ ?_)
   | (with_reducible refine LeO.bind ?_ (fun _ => ?_))
   | exact ih0 _ _ _ _
   | exact ih1 _ _ _ _ _ _
   | exact ih2 _ _ _ _ _ _ _ _ _ _ _
   | exact impl_isDomain.mono _ _
   | exact LeO.none _
   | refine LeO.ite ?_ ?_
   | refine LeO.bind ?_ (fun _ => ?_)
def impl_DialbackRight.T6 : Bool × List (List Nat × List Nat) := (true, [([], []), ([0], [0]), ([], []), ([2], [2]), ([3], [3]), ([1, 4], [1, 4]), ([5], [5]), ([6, 5], [6]), ([7], [7]), ([8, 7], [7, 8]), ([9, 7, 7], [7, 9]), ([10], [10]), ([11, 10], [10, 11]), ([10], [10]), ([13, 10], [10, 13]), ([12, 14, 10], [10, 12, 14]), ([15, 10], [10, 15]), ([16, 10], [10, 16]), ([10], [10]), ([18, 10], [10, 18]), ([17, 19, 10], [10, 17, 19]), ([10, 20, 7], [7, 10, 20]), ([7, 21], [7, 21]), ([22, 10], [22]), ([23], [23]), ([24, 23], [23, 24]), ([25, 23, 23], [23, 25]), ([26, 23], [23, 26]), ([23, 27], [23, 27])])
def impl_DialbackRight.B6 : List Nat := [0, 1, 0, 4, 12, 31, 63, 127, 255, 511, 1023, 2047, 4095, 2047, 10239, 32767, 65535, 131071, 2047, 264191, 1048575, 2097151, 4194303, 8388607, 16777215, 33554431, 67108863, 134217727, 268435455]
theorem impl_DialbackRight.tab6 : rtab .any (opsOf Tryd.f18 6) = impl_DialbackRight.T6 := by kernel_rfl
theorem impl_DialbackRight.bits6 : waitsOk impl_DialbackRight.T6.2 impl_DialbackRight.B6 = true := by kernel_rfl
set_option maxHeartbeats 8000000 in
set_option maxRecDepth 100000 in
theorem impl_DialbackRight.calls (k : Nat) (a0_0 : ByteArray) (a0_1 : Int) (A0_2 : Option Addr) (c0_2 : Nat) (l0_2 : List (S71)) (r : Bool) (w : World) (hr0_2 : Kd.C k71 w A0_2 l0_2.length l0_2) (hc0_2 : l0_2.length ≤ c0_2) (h : impl_DialbackRight.f k a0_0 a0_1 l0_2 = some r) (hmx : MaxIs w) :
  Calls Tryd.prog 18 #[.agg #[.string a0_0, .int .i64 a0_1, .slice A0_2 l0_2.length c0_2]] w fun e w' => e = .returned (.bool r) ∧ Below w.heap.size w w' := by
 have hu40 := Tryd.underlying40
 have hu71 := Tryd.underlying71
 have HR0_2 := Aside0.mk hr0_2
 have HC0_2 := Aside0.mk hc0_2
 clear hr0_2 hc0_2
 have HB := Aside0.mk (Below.refl w.heap.size w)
 have H : ((impl_isDomain.f k a0_0).bind fun t265 => (if t265 = true then ((impl_isId.f a0_1).bind fun t266 => (if t266 = true then (impl_DialbackRight.j0 k (decide ((l0_2.length : Int) > 10)) a0_0 a0_1 l0_2) else (impl_DialbackRight.j0 k true a0_0 a0_1 l0_2))) else (impl_DialbackRight.j0 k true a0_0 a0_1 l0_2))) = some r := h
 clear h
 have HC2 := Aside0.mk H
 clear H
 go_enter Tryd.func18, Tryd.ntmps18
 go_upto_region 1 with (first | ((with_reducible refine gate_dst (N := 1) rfl ?_); (try (refine gate_guard (by rfl) ?_; dsimp only)); refine box_event ?hg (N := 1) ?hd (cs := #[.string a0_0, .int .i64 a0_1, .slice A0_2 l0_2.length c0_2]) (t := 40) ?hr ?_; (case hd => rfl); (case hg => rfl); (case hr => first | (go_simp; done) | (go_simp; rfl)); intro gb264 hg w3 hbox hb; have n0_ := Aside0.mk (below_step zb0_9 hb); have n1_ := Aside0.mk (hbox); have n2_ := Aside0.mk ((by rw [hg]; exact (below_size zb0_9) : w.heap.size ≤ gb264)); have n3_ := Aside0.mk ((by rw [hg]; exact (below_size zb0_9) : w.heap.size ≤ gb264)); clear HB; have HB := n0_; have BK264 := n1_; have GW264 := n2_; have GE264 := n3_; clear n0_ n1_ n2_ n3_; clear hb hbox hg))
 (try simp only [Act.put, List.setIfInBounds_toArray, List.set_cons_zero, List.set_cons_succ])
 go_cut [20] (fun v20 wc => ∃ (kq : Nat) (x20_1 : Bool), v20 = .bool x20_1 ∧ Aside0 (impl_DialbackRight.j0 kq x20_1 a0_0 a0_1 l0_2 = some r) ∧ Aside0 (kq ≤ k) ∧ Aside0 (wc.heap[gb264]? = some (.cells #[.string a0_0, .int .i64 a0_1, (.slice A0_2 l0_2.length c0_2)] 40 (0, 0))) ∧ Aside0 (Below w.heap.size w wc))
 case first =>
  have H := HC2.out
  clear HC2
  replace H := Option.bind_eq_some_iff.mp H
  obtain ⟨t265, A40, H⟩ := H
  replace H : (if t265 = true then ((impl_isId.f a0_1).bind fun t266 => (if t266 = true then (impl_DialbackRight.j0 k (decide ((l0_2.length : Int) > 10)) a0_0 a0_1 l0_2) else (impl_DialbackRight.j0 k true a0_0 a0_1 l0_2))) else (impl_DialbackRight.j0 k true a0_0 a0_1 l0_2)) = some r := H
  have A4 := Aside0.mk A40
  clear A40
  by_cases c5 : t265 = true
  ·
   subst c5
   have H1 : ((impl_isId.f a0_1).bind fun t266 => (if t266 = true then (impl_DialbackRight.j0 k (decide ((l0_2.length : Int) > 10)) a0_0 a0_1 l0_2) else (impl_DialbackRight.j0 k true a0_0 a0_1 l0_2))) = some r := by rw [if_pos rfl] at H; exact H
   clear H
   have H := H1
   clear H1
   replace H := Option.bind_eq_some_iff.mp H
   obtain ⟨t266, A60, H⟩ := H
   replace H : (if t266 = true then (impl_DialbackRight.j0 k (decide ((l0_2.length : Int) > 10)) a0_0 a0_1 l0_2) else (impl_DialbackRight.j0 k true a0_0 a0_1 l0_2)) = some r := H
   have A6 := Aside0.mk A60
   clear A60
   by_cases c7 : t266 = true
   ·
    subst c7
    have H1 : (impl_DialbackRight.j0 k (decide ((l0_2.length : Int) > 10)) a0_0 a0_1 l0_2) = some r := by rw [if_pos rfl] at H; exact H
    clear H
    have H := H1
    clear H1
    have H' := Aside0.mk H
    clear H
    have hcz8_0 := bcq_9 BK264.out 0
    have hcz8_1 := bcq_9 BK264.out 1
    have hcz8_2 := bcq_9 BK264.out 2
    have hfz8_0 := blk_frozen BK264.out 0
    have hfz8_1 := blk_frozen BK264.out 1
    have hfz8_2 := blk_frozen BK264.out 2
    go_wp2_with (first | ((with_reducible refine gate_callee (f := 49) rfl ?_); refine goesL_ (some 7) rfl rfl Tryd.func49 (by kernel_rfl) rfl #[.string a0_0] rfl zb1_9 ?_; (with_reducible refine (impl_isDomain.calls k a0_0 true _ A4.out zb2_9).mono ?_); rintro e w9 ⟨rfl, hb⟩; refine ⟨_, rfl, ?_⟩; have n0_ := Aside0.mk (blk_below (g := gb264) (o := .cells #[.string a0_0, .int .i64 a0_1, .slice A0_2 l0_2.length c0_2] 40 (0, 0)) zb3_9 hb); have n1_ := Aside0.mk (below_step zb4_9 hb); clear BK264; clear HB; have BK264 := n0_; have HB := n1_; clear n0_ n1_; (try clear hb); (try clear hb2); (try clear hk); (try clear hi); have hcz10_0 := bcq_9 BK264.out 0; have hcz10_1 := bcq_9 BK264.out 1; have hcz10_2 := bcq_9 BK264.out 2; have hfz10_0 := blk_frozen BK264.out 0; have hfz10_1 := blk_frozen BK264.out 1; have hfz10_2 := blk_frozen BK264.out 2) | (go_at_call 50; (with_reducible refine (impl_isId.calls a0_1 true _ A6.out).mono ?_); rintro e w' ⟨rfl, ⟨nd, rfl⟩⟩))
    go_meet
    case rel => exact ⟨_, (decide ((l0_2.length : Int) > 10)), zb5_9, H', ⟨by first | omega | exact Nat.le_refl _⟩, ⟨by (with_reducible repeat (first | refine blk_drewN ?_ _ | refine blk_drew ?_ | refine blk_alloc ?_ _)); exact BK264.out⟩, ⟨by repeat (first | (with_reducible first | exact HB.out | apply below_alloc | apply pw_below_drewN | apply below_drew1 | refine below_set ?_ GE264.out) | exact HB.out)⟩⟩
   ·
    replace c7 := Bool.eq_false_iff.mpr c7
    subst c7
    have H1 : (impl_DialbackRight.j0 k true a0_0 a0_1 l0_2) = some r := by rw [if_neg (show ¬ (false = true) by decide)] at H; exact H
    clear H
    have H := H1
    clear H1
    have H' := Aside0.mk H
    clear H
    have hcz11_0 := bcq_9 BK264.out 0
    have hcz11_1 := bcq_9 BK264.out 1
    have hcz11_2 := bcq_9 BK264.out 2
    have hfz11_0 := blk_frozen BK264.out 0
    have hfz11_1 := blk_frozen BK264.out 1
    have hfz11_2 := blk_frozen BK264.out 2
    go_wp2_with (first | ((with_reducible refine gate_callee (f := 49) rfl ?_); refine goesL_ (some 7) rfl rfl Tryd.func49 (by kernel_rfl) rfl #[.string a0_0] rfl zb1_9 ?_; (with_reducible refine (impl_isDomain.calls k a0_0 true _ A4.out zb2_9).mono ?_); rintro e w12 ⟨rfl, hb⟩; refine ⟨_, rfl, ?_⟩; have n0_ := Aside0.mk (blk_below (g := gb264) (o := .cells #[.string a0_0, .int .i64 a0_1, .slice A0_2 l0_2.length c0_2] 40 (0, 0)) zb3_9 hb); have n1_ := Aside0.mk (below_step zb4_9 hb); clear BK264; clear HB; have BK264 := n0_; have HB := n1_; clear n0_ n1_; (try clear hb); (try clear hb2); (try clear hk); (try clear hi); have hcz13_0 := bcq_9 BK264.out 0; have hcz13_1 := bcq_9 BK264.out 1; have hcz13_2 := bcq_9 BK264.out 2; have hfz13_0 := blk_frozen BK264.out 0; have hfz13_1 := blk_frozen BK264.out 1; have hfz13_2 := blk_frozen BK264.out 2) | (go_at_call 50; (with_reducible refine (impl_isId.calls a0_1 false _ A6.out).mono ?_); rintro e w' ⟨rfl, ⟨nd, rfl⟩⟩))
    go_meet
    case rel => exact ⟨_, (true), zb5_9, H', ⟨by first | omega | exact Nat.le_refl _⟩, ⟨by (with_reducible repeat (first | refine blk_drewN ?_ _ | refine blk_drew ?_ | refine blk_alloc ?_ _)); exact BK264.out⟩, ⟨by repeat (first | (with_reducible first | exact HB.out | apply below_alloc | apply pw_below_drewN | apply below_drew1 | refine below_set ?_ GE264.out) | exact HB.out)⟩⟩
  ·
   replace c5 := Bool.eq_false_iff.mpr c5
   subst c5
   have H1 : (impl_DialbackRight.j0 k true a0_0 a0_1 l0_2) = some r := by rw [if_neg (show ¬ (false = true) by decide)] at H; exact H
   clear H
   have H := H1
   clear H1
   have H' := Aside0.mk H
   clear H
   have hcz14_0 := bcq_9 BK264.out 0
   have hcz14_1 := bcq_9 BK264.out 1
   have hcz14_2 := bcq_9 BK264.out 2
   have hfz14_0 := blk_frozen BK264.out 0
   have hfz14_1 := blk_frozen BK264.out 1
   have hfz14_2 := blk_frozen BK264.out 2
   go_wp2_with (first | ((with_reducible refine gate_callee (f := 49) rfl ?_); refine goesL_ (some 7) rfl rfl Tryd.func49 (by kernel_rfl) rfl #[.string a0_0] rfl zb1_9 ?_; (with_reducible refine (impl_isDomain.calls k a0_0 false _ A4.out zb2_9).mono ?_); rintro e w15 ⟨rfl, hb⟩; refine ⟨_, rfl, ?_⟩; have n0_ := Aside0.mk (blk_below (g := gb264) (o := .cells #[.string a0_0, .int .i64 a0_1, .slice A0_2 l0_2.length c0_2] 40 (0, 0)) zb3_9 hb); have n1_ := Aside0.mk (below_step zb4_9 hb); clear BK264; clear HB; have BK264 := n0_; have HB := n1_; clear n0_ n1_; (try clear hb); (try clear hb2); (try clear hk); (try clear hi)))
   go_meet
   case rel => exact ⟨_, (true), zb5_9, H', ⟨by first | omega | exact Nat.le_refl _⟩, ⟨by (with_reducible repeat (first | refine blk_drewN ?_ _ | refine blk_drew ?_ | refine blk_alloc ?_ _)); exact BK264.out⟩, ⟨by repeat (first | (with_reducible first | exact HB.out | apply below_alloc | apply pw_below_drewN | apply below_drew1 | refine below_set ?_ GE264.out) | exact HB.out)⟩⟩
 case rest =>
  clear HC2
  try clear c1
  try clear p2
  try clear c4
  try clear c5
  try clear c7
  try clear hcz10_0
  try clear hcz10_1
  try clear hcz10_2
  try clear hcz11_0
  try clear hcz11_1
  try clear hcz11_2
  try clear hcz13_0
  try clear hcz13_1
  try clear hcz13_2
  try clear hcz14_0
  try clear hcz14_1
  try clear hcz14_2
  try clear hcz8_0
  try clear hcz8_1
  try clear hcz8_2
  try clear hfz10_0
  try clear hfz10_1
  try clear hfz10_2
  try clear hfz11_0
  try clear hfz11_1
  try clear hfz11_2
  try clear hfz13_0
  try clear hfz13_1
  try clear hfz13_2
  try clear hfz14_0
  try clear hfz14_1
  try clear hfz14_2
  try clear hfz8_0
  try clear hfz8_1
  try clear hfz8_2
  obtain ⟨kq, x20_1, rfl, HA, HJ1, BK264, HB⟩ := hcut
  cases kq with
  | zero => exact absurd HA.out (by simp [impl_DialbackRight.j0])
  | succ kj1 =>
   have H := HA.out
   clear HA
   simp only [impl_DialbackRight.j0] at H
   by_cases c16 : x20_1 = true
   ·
    subst c16
    have H1 : (some false) = some r := by rw [if_pos rfl] at H; exact H
    clear H
    have H := H1
    clear H1
    obtain rfl := Option.some.inj H
    go_wp2
    go_ret
    exact ⟨by first | rfl | (simp [errW_none, errW_some] <;> rfl) | (simp [*, errW_none, errW_some] <;> rfl), by repeat (first | (with_reducible first | exact HB.out | apply below_alloc | apply pw_below_drewN | apply below_drew1 | refine below_set ?_ GE264.out) | exact HB.out)⟩
   ·
    replace c16 := Bool.eq_false_iff.mpr c16
    subst c16
    have H1 : (impl_DialbackRight.l0 kj1 l0_2 (l0_2.length : Int) 0 a0_0 a0_1 l0_2) = some r := by rw [if_neg (show ¬ (false = true) by decide)] at H; exact H
    clear H
    have H := H1
    clear H1
    have H' := Aside0.mk H
    clear H
    have hcz17_0 := bcq_9 BK264.out 0
    have hcz17_1 := bcq_9 BK264.out 1
    have hcz17_2 := bcq_9 BK264.out 2
    have hfz17_0 := blk_frozen BK264.out 0
    have hfz17_1 := blk_frozen BK264.out 1
    have hfz17_2 := blk_frozen BK264.out 2
    go_wp2
    go_loopg [24] kj1 (fun kq v24 w' => ∃ (x24_2 : Int), v24 = .int .i64 x24_2 ∧ Aside0 (impl_DialbackRight.l0 kq l0_2 (l0_2.length : Int) x24_2 a0_0 a0_1 l0_2 = some r) ∧ Aside0 (kq ≤ kj1) ∧ Aside0 (w'.heap[gb264]? = some (.cells #[.string a0_0, .int .i64 a0_1, (.slice A0_2 l0_2.length c0_2)] 40 (0, 0))) ∧ Aside0 (Below w.heap.size w w'))
    case atStart => exact ⟨(0), zb5_9, H', ⟨Nat.le_refl _⟩, ⟨by (with_reducible repeat (first | refine blk_drewN ?_ _ | refine blk_drew ?_ | refine blk_alloc ?_ _)); exact BK264.out⟩, ⟨by repeat (first | (with_reducible first | exact HB.out | apply below_alloc | apply pw_below_drewN | apply below_drew1 | refine below_set ?_ GE264.out) | exact HB.out)⟩⟩
    case round =>
     clear H'
     try clear c1
     try clear p2
     try clear c4
     try clear c5
     try clear c7
     try clear c16
     try clear hcz10_0
     try clear hcz10_1
     try clear hcz10_2
     try clear hcz11_0
     try clear hcz11_1
     try clear hcz11_2
     try clear hcz13_0
     try clear hcz13_1
     try clear hcz13_2
     try clear hcz14_0
     try clear hcz14_1
     try clear hcz14_2
     try clear hcz17_0
     try clear hcz17_1
     try clear hcz17_2
     try clear hcz8_0
     try clear hcz8_1
     try clear hcz8_2
     try clear hfz10_0
     try clear hfz10_1
     try clear hfz10_2
     try clear hfz11_0
     try clear hfz11_1
     try clear hfz11_2
     try clear hfz13_0
     try clear hfz13_1
     try clear hfz13_2
     try clear hfz14_0
     try clear hfz14_1
     try clear hfz14_2
     try clear hfz17_0
     try clear hfz17_1
     try clear hfz17_2
     try clear hfz8_0
     try clear hfz8_1
     try clear hfz8_2
     try clear p2
     obtain ⟨x24_2, rfl, HA, HK2, BK264, HB⟩ := hrel
     cases gk with
     | zero => exact absurd HA.out (by simp [impl_DialbackRight.l0])
     | succ k2 =>
      have H := HA.out
      clear HA
      simp only [impl_DialbackRight.l0] at H
      by_cases c18 : x24_2 < (l0_2.length : Int)
      ·
       rw [if_pos c18] at H
       have c18b0 : decide (x24_2 < (l0_2.length : Int)) = true := decide_eq_true c18
       clear c18
       by_cases c19 : 0 ≤ x24_2
       ·
        rw [if_pos c19] at H
        have c19b0 : decide (0 ≤ x24_2) = true := decide_eq_true c19
        clear c19
        by_cases c20 : x24_2 < (l0_2.length : Int)
        ·
         rw [if_pos c20] at H
         have c20b0 : decide (x24_2 < (l0_2.length : Int)) = true := decide_eq_true c20
         clear c20
         have HC21 := Aside0.mk H
         clear H
         have p267 : 0 ≤ (x24_2 : Int) := of_decide_eq_true zb6_9
         have q267 : x24_2 < (l0_2.length : Int) := of_decide_eq_true zb6_9
         obtain ⟨ad267, e267, hx267_0, hx267_1, hx267_2, hx267_3⟩ := at_T71 HR0_2.out x24_2 p267 q267
         cases e267
         replace hx267_0 := (HB.out.cell (World.block_lt_of_cell? w _ hx267_0)).trans hx267_0
         replace hx267_1 := (HB.out.cell (World.block_lt_of_cell? w _ hx267_1)).trans hx267_1
         replace hx267_2 := (HB.out.cell (World.block_lt_of_cell? w _ hx267_2)).trans hx267_2
         replace hx267_3 := (HB.out.cell (World.block_lt_of_cell? w _ hx267_3)).trans hx267_3
         replace p267 := eq_true p267
         replace q267 := eq_true q267
         go_upto_region 6 with (first | ((with_reducible refine gate_dst (N := 4) rfl ?_); (try (refine gate_guard (by rfl) ?_; dsimp only)); refine box_event ?hg (N := 4) ?hd (cs := #[.string (⟨#[]⟩ : ByteArray), .int .i64 0, .int .i64 0, .string (⟨#[]⟩ : ByteArray)]) (t := 71) ?hr ?_; (case hd => rfl); (case hg => rfl); (case hr => first | (go_simp; done) | (go_simp; rfl)); intro gb268 hg w22 hbox hb; have n0_ := Aside0.mk (blk_below (g := gb264) (o := .cells #[.string a0_0, .int .i64 a0_1, .slice (some ad267) l0_2.length c0_2] 40 (0, 0)) zb3_9 hb); have n1_ := Aside0.mk (below_step zb4_9 hb); have n2_ := Aside0.mk (hbox); have n3_ := Aside0.mk ((by rw [hg]; exact (below_size zb4_9) : w.heap.size ≤ gb268)); have n4_ := Aside0.mk ((by rw [hg]; exact (below_size zb4_9) : w.heap.size ≤ gb268)); have n5_ := Aside0.mk ((by rw [hg]; exact Nat.ne_of_lt (blk_lt (g := gb264) (o := .cells #[.string a0_0, .int .i64 a0_1, .slice (some ad267) l0_2.length c0_2] 40 (0, 0)) zb3_9) : gb264 ≠ gb268)); have n6_ := Aside0.mk ((by rw [hg]; exact Nat.ne_of_gt (blk_lt (g := gb264) (o := .cells #[.string a0_0, .int .i64 a0_1, .slice (some ad267) l0_2.length c0_2] 40 (0, 0)) zb3_9) : gb268 ≠ gb264)); clear BK264; clear HB; have BK264 := n0_; have HB := n1_; have BK268 := n2_; have GW268 := n3_; have GE268 := n4_; have NB264_268 := n5_; have NB268_264 := n6_; clear n0_ n1_ n2_ n3_ n4_ n5_ n6_; clear hb hbox hg; have hnb23 := NB268_264.out; have hnc23 := NB264_268.out; have hcz24_0 := bcq_9 BK268.out 0; have hcz24_1 := bcq_9 BK268.out 1; have hcz24_2 := bcq_9 BK268.out 2; have hcz24_3 := bcq_9 BK268.out 3; have hfz24_0 := blk_frozen BK268.out 0; have hfz24_1 := blk_frozen BK268.out 1; have hfz24_2 := blk_frozen BK268.out 2; have hfz24_3 := blk_frozen BK268.out 3))
         (try simp only [Act.put, List.setIfInBounds_toArray, List.set_cons_zero, List.set_cons_succ])
         go_cut [57] (fun v57 wc => ∃ (kq : Nat) (x57_20 : Bool), v57 = .bool x57_20 ∧ Aside0 (impl_DialbackRight.j2 kq l0_2 (l0_2.length : Int) x24_2 x57_20 a0_0 a0_1 l0_2 ((rd_T71 l0_2 x24_2).f0) ((rd_T71 l0_2 x24_2).f1) ((rd_T71 l0_2 x24_2).f2) ((rd_T71 l0_2 x24_2).f3) = some r) ∧ Aside0 (kq ≤ k2) ∧ Aside0 (wc.heap[gb264]? = some (.cells #[.string a0_0, .int .i64 a0_1, (.slice (some ad267) l0_2.length c0_2)] 40 (0, 0))) ∧ Aside0 (wc.heap[gb268]? = some (.cells #[.string ((rd_T71 l0_2 x24_2).f0), .int .i64 ((rd_T71 l0_2 x24_2).f1), .int .i64 ((rd_T71 l0_2 x24_2).f2), .string ((rd_T71 l0_2 x24_2).f3)] 71 (0, 0))) ∧ Aside0 (Below w.heap.size w wc))
         case first =>
          have H := HC21.out
          clear HC21
          replace H := Option.bind_eq_some_iff.mp H
          obtain ⟨t269, A250, H⟩ := H
          replace H : (if t269 = true then (if x24_2 > 0 then (if 0 ≤ (wrap64 (x24_2 - 1)) then (if (wrap64 (x24_2 - 1)) < (l0_2.length : Int) then (if ((rd_T71 l0_2 (wrap64 (x24_2 - 1))).f1) ≥ ((rd_T71 l0_2 x24_2).f1) then (impl_DialbackRight.j2 k2 l0_2 (l0_2.length : Int) x24_2 true a0_0 a0_1 l0_2 ((rd_T71 l0_2 x24_2).f0) ((rd_T71 l0_2 x24_2).f1) ((rd_T71 l0_2 x24_2).f2) ((rd_T71 l0_2 x24_2).f3)) else ((impl_isDomain.f k2 ((rd_T71 l0_2 x24_2).f0)).bind fun t271 => (impl_DialbackRight.j2 k2 l0_2 (l0_2.length : Int) x24_2 (!t271) a0_0 a0_1 l0_2 ((rd_T71 l0_2 x24_2).f0) ((rd_T71 l0_2 x24_2).f1) ((rd_T71 l0_2 x24_2).f2) ((rd_T71 l0_2 x24_2).f3)))) else (none)) else (none)) else ((impl_isDomain.f k2 ((rd_T71 l0_2 x24_2).f0)).bind fun t272 => (impl_DialbackRight.j2 k2 l0_2 (l0_2.length : Int) x24_2 (!t272) a0_0 a0_1 l0_2 ((rd_T71 l0_2 x24_2).f0) ((rd_T71 l0_2 x24_2).f1) ((rd_T71 l0_2 x24_2).f2) ((rd_T71 l0_2 x24_2).f3)))) else (impl_DialbackRight.j2 k2 l0_2 (l0_2.length : Int) x24_2 true a0_0 a0_1 l0_2 ((rd_T71 l0_2 x24_2).f0) ((rd_T71 l0_2 x24_2).f1) ((rd_T71 l0_2 x24_2).f2) ((rd_T71 l0_2 x24_2).f3))) = some r := H
          have A25 := Aside0.mk A250
          clear A250
          by_cases c26 : t269 = true
          ·
           subst c26
           have H1 : (if x24_2 > 0 then (if 0 ≤ (wrap64 (x24_2 - 1)) then (if (wrap64 (x24_2 - 1)) < (l0_2.length : Int) then (if ((rd_T71 l0_2 (wrap64 (x24_2 - 1))).f1) ≥ ((rd_T71 l0_2 x24_2).f1) then (impl_DialbackRight.j2 k2 l0_2 (l0_2.length : Int) x24_2 true a0_0 a0_1 l0_2 ((rd_T71 l0_2 x24_2).f0) ((rd_T71 l0_2 x24_2).f1) ((rd_T71 l0_2 x24_2).f2) ((rd_T71 l0_2 x24_2).f3)) else ((impl_isDomain.f k2 ((rd_T71 l0_2 x24_2).f0)).bind fun t271 => (impl_DialbackRight.j2 k2 l0_2 (l0_2.length : Int) x24_2 (!t271) a0_0 a0_1 l0_2 ((rd_T71 l0_2 x24_2).f0) ((rd_T71 l0_2 x24_2).f1) ((rd_T71 l0_2 x24_2).f2) ((rd_T71 l0_2 x24_2).f3)))) else (none)) else (none)) else ((impl_isDomain.f k2 ((rd_T71 l0_2 x24_2).f0)).bind fun t272 => (impl_DialbackRight.j2 k2 l0_2 (l0_2.length : Int) x24_2 (!t272) a0_0 a0_1 l0_2 ((rd_T71 l0_2 x24_2).f0) ((rd_T71 l0_2 x24_2).f1) ((rd_T71 l0_2 x24_2).f2) ((rd_T71 l0_2 x24_2).f3)))) = some r := by rw [if_pos rfl] at H; exact H
           clear H
           have H := H1
           clear H1
           by_cases c27 : x24_2 > 0
           ·
            rw [if_pos c27] at H
            have c27b0 : decide (0 < x24_2) = true := decide_eq_true c27
            clear c27
            (first | rw [c27b0] | (simp only [i64_w, i32_w]; rw [c27b0]) | skip)
            obtain ⟨ji28, hji28⟩ : ∃ j_ : Int, (wrap64 (x24_2 - 1)) = j_ := ⟨_, rfl⟩
            replace H : (if 0 ≤ (ji28) then (if (ji28) < (l0_2.length : Int) then (if ((rd_T71 l0_2 (ji28)).f1) ≥ ((rd_T71 l0_2 x24_2).f1) then (impl_DialbackRight.j2 k2 l0_2 (l0_2.length : Int) x24_2 true a0_0 a0_1 l0_2 ((rd_T71 l0_2 x24_2).f0) ((rd_T71 l0_2 x24_2).f1) ((rd_T71 l0_2 x24_2).f2) ((rd_T71 l0_2 x24_2).f3)) else ((impl_isDomain.f k2 ((rd_T71 l0_2 x24_2).f0)).bind fun t271 => (impl_DialbackRight.j2 k2 l0_2 (l0_2.length : Int) x24_2 (!t271) a0_0 a0_1 l0_2 ((rd_T71 l0_2 x24_2).f0) ((rd_T71 l0_2 x24_2).f1) ((rd_T71 l0_2 x24_2).f2) ((rd_T71 l0_2 x24_2).f3)))) else (none)) else (none)) = some r := by first | (rw [hji28] at H; exact H) | (simp only [hji28] at H ⊢; exact H)
            (try rw [hji28] at A25)
            have hji28w : (IntKind.i64.wrap (x24_2 - 1)) = ji28 := (i64_w _).trans hji28
            by_cases c29 : 0 ≤ (ji28)
            ·
             rw [if_pos c29] at H
             have c29b0 : decide (0 ≤ (ji28)) = true := decide_eq_true c29
             clear c29
             by_cases c30 : (ji28) < (l0_2.length : Int)
             ·
              rw [if_pos c30] at H
              have c30b0 : decide ((ji28) < (l0_2.length : Int)) = true := decide_eq_true c30
              clear c30
              by_cases c31 : ((rd_T71 l0_2 (ji28)).f1) ≥ ((rd_T71 l0_2 x24_2).f1)
              ·
               rw [if_pos c31] at H
               have c31b0 : decide (((rd_T71 l0_2 x24_2).f1) ≤ ((rd_T71 l0_2 (ji28)).f1)) = true := decide_eq_true c31
               clear c31
               have H' := Aside0.mk H
               clear H
               try go_wp2
               have n0_ : Aside0 (((((w22.setCell ⟨gb268, 0, none⟩ (.string ((rd_T71 l0_2 x24_2).f0))).setCell ⟨gb268, 1, none⟩ (.int .i64 ((rd_T71 l0_2 x24_2).f1))).setCell ⟨gb268, 2, none⟩ (.int .i64 ((rd_T71 l0_2 x24_2).f2))).setCell ⟨gb268, 3, none⟩ (.string ((rd_T71 l0_2 x24_2).f3))).heap[gb264]? = some (.cells #[.string a0_0, .int .i64 a0_1, .slice (some ad267) l0_2.length c0_2] 40 (0, 0))) := ⟨by (with_reducible repeat (first | refine blk_drewN ?_ _ | refine blk_drew ?_ | refine blk_alloc ?_ _)); refine blk_far ?_ NB264_268.out _; (with_reducible repeat (first | refine blk_drewN ?_ _ | refine blk_drew ?_ | refine blk_alloc ?_ _)); refine blk_far ?_ NB264_268.out _; (with_reducible repeat (first | refine blk_drewN ?_ _ | refine blk_drew ?_ | refine blk_alloc ?_ _)); refine blk_far ?_ NB264_268.out _; (with_reducible repeat (first | refine blk_drewN ?_ _ | refine blk_drew ?_ | refine blk_alloc ?_ _)); refine blk_far ?_ NB264_268.out _; (with_reducible repeat (first | refine blk_drewN ?_ _ | refine blk_drew ?_ | refine blk_alloc ?_ _)); exact BK264.out⟩
               have n1_ : Aside0 (((((w22.setCell ⟨gb268, 0, none⟩ (.string ((rd_T71 l0_2 x24_2).f0))).setCell ⟨gb268, 1, none⟩ (.int .i64 ((rd_T71 l0_2 x24_2).f1))).setCell ⟨gb268, 2, none⟩ (.int .i64 ((rd_T71 l0_2 x24_2).f2))).setCell ⟨gb268, 3, none⟩ (.string ((rd_T71 l0_2 x24_2).f3))).heap[gb268]? = some (.cells #[.string ((rd_T71 l0_2 x24_2).f0), .int .i64 ((rd_T71 l0_2 x24_2).f1), .int .i64 ((rd_T71 l0_2 x24_2).f2), .string ((rd_T71 l0_2 x24_2).f3)] 71 (0, 0))) := ⟨by (with_reducible repeat (first | refine blk_drewN ?_ _ | refine blk_drew ?_ | refine blk_alloc ?_ _)); refine blk_put (cs := #[.string ((rd_T71 l0_2 x24_2).f0), .int .i64 ((rd_T71 l0_2 x24_2).f1), .int .i64 ((rd_T71 l0_2 x24_2).f2), .string (⟨#[]⟩ : ByteArray)]) ?_ 3 _ rfl; (with_reducible repeat (first | refine blk_drewN ?_ _ | refine blk_drew ?_ | refine blk_alloc ?_ _)); refine blk_put (cs := #[.string ((rd_T71 l0_2 x24_2).f0), .int .i64 ((rd_T71 l0_2 x24_2).f1), .int .i64 0, .string (⟨#[]⟩ : ByteArray)]) ?_ 2 _ rfl; (with_reducible repeat (first | refine blk_drewN ?_ _ | refine blk_drew ?_ | refine blk_alloc ?_ _)); refine blk_put (cs := #[.string ((rd_T71 l0_2 x24_2).f0), .int .i64 0, .int .i64 0, .string (⟨#[]⟩ : ByteArray)]) ?_ 1 _ rfl; (with_reducible repeat (first | refine blk_drewN ?_ _ | refine blk_drew ?_ | refine blk_alloc ?_ _)); refine blk_put (cs := #[.string (⟨#[]⟩ : ByteArray), .int .i64 0, .int .i64 0, .string (⟨#[]⟩ : ByteArray)]) ?_ 0 _ rfl; (with_reducible repeat (first | refine blk_drewN ?_ _ | refine blk_drew ?_ | refine blk_alloc ?_ _)); exact BK268.out⟩
               have n2_ : Aside0 (Below w.heap.size w ((((w22.setCell ⟨gb268, 0, none⟩ (.string ((rd_T71 l0_2 x24_2).f0))).setCell ⟨gb268, 1, none⟩ (.int .i64 ((rd_T71 l0_2 x24_2).f1))).setCell ⟨gb268, 2, none⟩ (.int .i64 ((rd_T71 l0_2 x24_2).f2))).setCell ⟨gb268, 3, none⟩ (.string ((rd_T71 l0_2 x24_2).f3)))) := ⟨by repeat (first | (with_reducible first | exact HB.out | apply below_alloc | apply pw_below_drewN | apply below_drew1 | refine below_set ?_ GE264.out | refine below_set ?_ GE268.out) | exact HB.out)⟩
               (try clear BK264)
               (try clear BK268)
               (try clear HB)
               generalize ((((w22.setCell ⟨gb268, 0, none⟩ (.string ((rd_T71 l0_2 x24_2).f0))).setCell ⟨gb268, 1, none⟩ (.int .i64 ((rd_T71 l0_2 x24_2).f1))).setCell ⟨gb268, 2, none⟩ (.int .i64 ((rd_T71 l0_2 x24_2).f2))).setCell ⟨gb268, 3, none⟩ (.string ((rd_T71 l0_2 x24_2).f3))) = w32 at n0_ n1_ n2_ ⊢
               have BK264 := n0_
               have BK268 := n1_
               have HB := n2_
               clear n0_ n1_ n2_
               have n0_ := Aside0.mk (blk_drew BK264.out)
               have n1_ := Aside0.mk (blk_drew BK268.out)
               have n2_ := Aside0.mk (below_drew1 HB.out)
               clear BK264
               clear BK268
               clear HB
               have BK264 := n0_
               have BK268 := n1_
               have HB := n2_
               clear n0_ n1_ n2_
               have p270 : 0 ≤ ((ji28) : Int) := of_decide_eq_true zb6_9
               have q270 : (ji28) < (l0_2.length : Int) := of_decide_eq_true zb6_9
               obtain ⟨ad270, e270, hx270_0, hx270_1, hx270_2, hx270_3⟩ := at_T71 HR0_2.out (ji28) p270 q270
               have hw270_3 := hx270_3
               have hw270_2 := hx270_2
               have hw270_1 := hx270_1
               have hw270_0 := hx270_0
               obtain rfl : ad267 = ad270 := (by injection e270)
               replace hx270_0 := (HB.out.cell (World.block_lt_of_cell? w _ hx270_0)).trans hx270_0
               replace hx270_1 := (HB.out.cell (World.block_lt_of_cell? w _ hx270_1)).trans hx270_1
               replace hx270_2 := (HB.out.cell (World.block_lt_of_cell? w _ hx270_2)).trans hx270_2
               replace hx270_3 := (HB.out.cell (World.block_lt_of_cell? w _ hx270_3)).trans hx270_3
               replace p270 := eq_true p270
               replace q270 := eq_true q270
               refine start_ (n := 29) (S := fun w' => w'.cell? ⟨gb268, 0, none⟩ = some (.string ((rd_T71 l0_2 x24_2).f0)) ∧ w'.cell? ⟨gb268, 1, none⟩ = some (.int .i64 ((rd_T71 l0_2 x24_2).f1)) ∧ w'.cell? ⟨gb268, 2, none⟩ = some (.int .i64 ((rd_T71 l0_2 x24_2).f2)) ∧ w'.cell? ⟨gb268, 3, none⟩ = some (.string ((rd_T71 l0_2 x24_2).f3)) ∧ w'.cell? ⟨gb264, 0, none⟩ = some (.string a0_0) ∧ w'.cell? ⟨gb264, 1, none⟩ = some (.int .i64 a0_1) ∧ w'.cell? ⟨gb264, 2, none⟩ = some (.slice (some ad267) l0_2.length c0_2) ∧ w'.cell? (ad267.add (((ji28)).toNat * 4)) = some (.string ((rd_T71 l0_2 (ji28)).f0)) ∧ w'.cell? ⟨(ad267.add (((ji28)).toNat * 4)).block, (ad267.add (((ji28)).toNat * 4)).off + 1, none⟩ = some (.int .i64 ((rd_T71 l0_2 (ji28)).f1)) ∧ w'.cell? ⟨(ad267.add (((ji28)).toNat * 4)).block, (ad267.add (((ji28)).toNat * 4)).off + 2, none⟩ = some (.int .i64 ((rd_T71 l0_2 (ji28)).f2)) ∧ w'.cell? ⟨(ad267.add (((ji28)).toNat * 4)).block, (ad267.add (((ji28)).toNat * 4)).off + 3, none⟩ = some (.string ((rd_T71 l0_2 (ji28)).f3))) (ds := []) zm0_9 (by kernel_rfl) rfl rfl ⟨(blk_cell BK268.out 0).trans rfl, (blk_cell BK268.out 1).trans rfl, (blk_cell BK268.out 2).trans rfl, (blk_cell BK268.out 3).trans rfl, (blk_cell BK264.out 0).trans rfl, (blk_cell BK264.out 1).trans rfl, (blk_cell BK264.out 2).trans rfl, ((HB.out.cell (World.block_lt_of_cell? w _ hw270_0)).trans hw270_0), ((HB.out.cell (World.block_lt_of_cell? w _ hw270_1)).trans hw270_1), ((HB.out.cell (World.block_lt_of_cell? w _ hw270_2)).trans hw270_2), ((HB.out.cell (World.block_lt_of_cell? w _ hw270_3)).trans hw270_3)⟩ (fun hHeld => ?_); refine with_tabW impl_DialbackRight.tab6 impl_DialbackRight.bits6 (fun HT_ HW_ => ?_)
               generalize w32.drew = w33 at BK264 BK268 HB hx270_0 hx270_1 hx270_2 hx270_3 hHeld ⊢
               refine zp_9 0 (some 29) zm1_9 HT_ ?_
               refine zp_9 2 (some 31) zm2_9 HT_ ?_
               refine take_ (i := 1) (N := some 30) (v := ?_) (a' := ?_) zm3_9 rfl rfl (take_ofW HT_.out HW_.out (by kernel_rfl)) (fun _ _ _ h => h) (Or.inl ⟨by rfl, ?_⟩) hHeld ?_ ?_
               rotate_left
               ·
                rintro w' ⟨s0, s1, s2, s3, s4, s5, s6, s7, s8, s9, s10⟩
                go_simp
                with_reducible rfl
               rotate_left
               ·
                simp only [Act.put, List.setIfInBounds_toArray, List.set_cons_zero, List.set_cons_succ, i64_w, i32_w]
                rfl
               refine take_ (i := 3) (N := some 32) (v := ?_) (a' := ?_) zm4_9 rfl rfl (take_ofW HT_.out HW_.out (by kernel_rfl)) (fun _ _ _ h => h) (Or.inl ⟨by rfl, ?_⟩) hHeld ?_ ?_
               rotate_left
               ·
                rintro w' ⟨s0, s1, s2, s3, s4, s5, s6, s7, s8, s9, s10⟩
                go_simp
                with_reducible rfl
               rotate_left
               ·
                simp only [Act.put, List.setIfInBounds_toArray, List.set_cons_zero, List.set_cons_succ, i64_w, i32_w]
                rfl
               refine zp_9 4 (some 33) zm5_9 HT_ ?_
               refine one_ (i := 5) (N := some 34) zm6_9 rfl rfl (one_of HT_.out (by kernel_rfl)) (by decide) (fun K hK => ?_)
               refine goes_ Tryd.func51 (by kernel_rfl) rfl #[.int .i64 ((rd_T71 l0_2 x24_2).f1), .int .i64 1, .int .i64 (wrap64 (a0_1 - 1))] (by rfl) rfl rfl zb1_9 ?_
               with_reducible refine (impl_in.calls ((rd_T71 l0_2 x24_2).f1) 1 (wrap64 (a0_1 - 1)) true _ A25.out).mono ?_
               rintro e w' ⟨rfl, ⟨nd, rfl⟩⟩
               refine ⟨_, rfl, ?_⟩
               refine hK.out _ _ ⟨(blk_cell BK268.out 0).trans rfl, (blk_cell BK268.out 1).trans rfl, (blk_cell BK268.out 2).trans rfl, (blk_cell BK268.out 3).trans rfl, (blk_cell BK264.out 0).trans rfl, (blk_cell BK264.out 1).trans rfl, (blk_cell BK264.out 2).trans rfl, ((HB.out.cell (World.block_lt_of_cell? w _ hw270_0)).trans hw270_0), ((HB.out.cell (World.block_lt_of_cell? w _ hw270_1)).trans hw270_1), ((HB.out.cell (World.block_lt_of_cell? w _ hw270_2)).trans hw270_2), ((HB.out.cell (World.block_lt_of_cell? w _ hw270_3)).trans hw270_3)⟩ (fun hHeld => ?_)
               clear hK K
               refine norm_ (a' := ?_) ?_ ?_
               rotate_left
               ·
                show Act.put _ (some 34) _ = _
                simp only [Act.put, List.setIfInBounds_toArray, List.set_cons_zero, List.set_cons_succ, i64_w, i32_w]
                rfl
               refine zp_9 6 (some 35) zm7_9 HT_ ?_
               refine zp_9 7 (some 36) zm8_9 HT_ ?_
               refine zp_9 8 (some 37) zm9_9 HT_ ?_
               refine zp_9 9 (some 38) zm10_9 HT_ ?_
               refine zp_9 10 (some 39) zm11_9 HT_ ?_
               refine zp_9 11 (some 40) zm12_9 HT_ ?_
               refine zp_9 13 (some 42) zm13_9 HT_ ?_
               refine zp_9 14 (some 43) zm14_9 HT_ ?_
               refine zp_9 18 (some 47) zm15_9 HT_ ?_
               refine take_ (i := 12) (N := some 41) (v := ?_) (a' := ?_) zm16_9 rfl rfl (take_ofW HT_.out HW_.out (by kernel_rfl)) (fun _ _ _ h => h) (Or.inl ⟨by rfl, ?_⟩) hHeld ?_ ?_
               rotate_left
               ·
                rintro w' ⟨s0, s1, s2, s3, s4, s5, s6, s7, s8, s9, s10⟩
                go_simp
                with_reducible rfl
               rotate_left
               ·
                simp only [Act.put, List.setIfInBounds_toArray, List.set_cons_zero, List.set_cons_succ, i64_w, i32_w]
                rfl
               refine zp_9 15 (some 44) zm17_9 HT_ ?_
               refine zp_9 16 (some 45) zm18_9 HT_ ?_
               refine take_ (i := 17) (N := some 46) (v := ?_) (a' := ?_) zm19_9 rfl rfl (take_ofW HT_.out HW_.out (by kernel_rfl)) (fun _ _ _ h => h) (Or.inl ⟨by rfl, ?_⟩) hHeld ?_ ?_
               rotate_left
               ·
                rintro w' ⟨s0, s1, s2, s3, s4, s5, s6, s7, s8, s9, s10⟩
                go_simp
                with_reducible rfl
               rotate_left
               ·
                simp only [Act.put, List.setIfInBounds_toArray, List.set_cons_zero, List.set_cons_succ, i64_w, i32_w]
                rfl
               refine take_ (i := 19) (N := some 48) (v := ?_) (a' := ?_) zm20_9 rfl rfl (take_ofW HT_.out HW_.out (by kernel_rfl)) (fun _ _ _ h => h) (Or.inl ⟨by rfl, ?_⟩) hHeld ?_ ?_
               rotate_left
               ·
                rintro w' ⟨s0, s1, s2, s3, s4, s5, s6, s7, s8, s9, s10⟩
                go_simp
                with_reducible rfl
               rotate_left
               ·
                simp only [Act.put, List.setIfInBounds_toArray, List.set_cons_zero, List.set_cons_succ, i64_w, i32_w]
                rfl
               refine zp_9 20 (some 49) zm21_9 HT_ ?_
               refine zp_9 21 (some 50) zm22_9 HT_ ?_
               refine zp_9 22 (some 51) zm23_9 HT_ ?_
               refine zp_9 23 (some 52) zm24_9 HT_ ?_
               refine zu_9 24 (some 53) zm25_9 HT_ ?_
               refine zu_9 25 (some 54) zm26_9 HT_ ?_
               refine zu_9 26 (some 55) zm27_9 HT_ ?_
               refine zu_9 27 (some 56) zm28_9 HT_ ?_
               refine zp_9 28 (some 57) zm29_9 HT_ ?_
               refine done_ (done_of HT_.out (by kernel_rfl)) ?_
               try go_wp2
               go_meet
               case rel => exact ⟨_, (true), zb5_9, H', ⟨by have := HJ1.out; have := HK2.out; first | omega | exact Nat.le_refl _⟩, ⟨by (with_reducible repeat (first | refine blk_drewN ?_ _ | refine blk_drew ?_ | refine blk_alloc ?_ _)); exact BK264.out⟩, ⟨by (with_reducible repeat (first | refine blk_drewN ?_ _ | refine blk_drew ?_ | refine blk_alloc ?_ _)); exact BK268.out⟩, ⟨by repeat (first | (with_reducible first | exact HB.out | apply below_alloc | apply pw_below_drewN | apply below_drew1 | refine below_set ?_ GE264.out | refine below_set ?_ GE268.out) | exact HB.out)⟩⟩
              ·
               rw [if_neg c31] at H
               have c31b0 : decide (((rd_T71 l0_2 x24_2).f1) ≤ ((rd_T71 l0_2 (ji28)).f1)) = false := decide_eq_false c31
               clear c31
               replace H := Option.bind_eq_some_iff.mp H
               obtain ⟨t271, A340, H⟩ := H
               replace H : (impl_DialbackRight.j2 k2 l0_2 (l0_2.length : Int) x24_2 (!t271) a0_0 a0_1 l0_2 ((rd_T71 l0_2 x24_2).f0) ((rd_T71 l0_2 x24_2).f1) ((rd_T71 l0_2 x24_2).f2) ((rd_T71 l0_2 x24_2).f3)) = some r := H
               have A34 := Aside0.mk A340
               clear A340
               have H' := Aside0.mk H
               clear H
               try go_wp2
               have n0_ : Aside0 (((((w22.setCell ⟨gb268, 0, none⟩ (.string ((rd_T71 l0_2 x24_2).f0))).setCell ⟨gb268, 1, none⟩ (.int .i64 ((rd_T71 l0_2 x24_2).f1))).setCell ⟨gb268, 2, none⟩ (.int .i64 ((rd_T71 l0_2 x24_2).f2))).setCell ⟨gb268, 3, none⟩ (.string ((rd_T71 l0_2 x24_2).f3))).heap[gb264]? = some (.cells #[.string a0_0, .int .i64 a0_1, .slice (some ad267) l0_2.length c0_2] 40 (0, 0))) := ⟨by (with_reducible repeat (first | refine blk_drewN ?_ _ | refine blk_drew ?_ | refine blk_alloc ?_ _)); refine blk_far ?_ NB264_268.out _; (with_reducible repeat (first | refine blk_drewN ?_ _ | refine blk_drew ?_ | refine blk_alloc ?_ _)); refine blk_far ?_ NB264_268.out _; (with_reducible repeat (first | refine blk_drewN ?_ _ | refine blk_drew ?_ | refine blk_alloc ?_ _)); refine blk_far ?_ NB264_268.out _; (with_reducible repeat (first | refine blk_drewN ?_ _ | refine blk_drew ?_ | refine blk_alloc ?_ _)); refine blk_far ?_ NB264_268.out _; (with_reducible repeat (first | refine blk_drewN ?_ _ | refine blk_drew ?_ | refine blk_alloc ?_ _)); exact BK264.out⟩
               have n1_ : Aside0 (((((w22.setCell ⟨gb268, 0, none⟩ (.string ((rd_T71 l0_2 x24_2).f0))).setCell ⟨gb268, 1, none⟩ (.int .i64 ((rd_T71 l0_2 x24_2).f1))).setCell ⟨gb268, 2, none⟩ (.int .i64 ((rd_T71 l0_2 x24_2).f2))).setCell ⟨gb268, 3, none⟩ (.string ((rd_T71 l0_2 x24_2).f3))).heap[gb268]? = some (.cells #[.string ((rd_T71 l0_2 x24_2).f0), .int .i64 ((rd_T71 l0_2 x24_2).f1), .int .i64 ((rd_T71 l0_2 x24_2).f2), .string ((rd_T71 l0_2 x24_2).f3)] 71 (0, 0))) := ⟨by (with_reducible repeat (first | refine blk_drewN ?_ _ | refine blk_drew ?_ | refine blk_alloc ?_ _)); refine blk_put (cs := #[.string ((rd_T71 l0_2 x24_2).f0), .int .i64 ((rd_T71 l0_2 x24_2).f1), .int .i64 ((rd_T71 l0_2 x24_2).f2), .string (⟨#[]⟩ : ByteArray)]) ?_ 3 _ rfl; (with_reducible repeat (first | refine blk_drewN ?_ _ | refine blk_drew ?_ | refine blk_alloc ?_ _)); refine blk_put (cs := #[.string ((rd_T71 l0_2 x24_2).f0), .int .i64 ((rd_T71 l0_2 x24_2).f1), .int .i64 0, .string (⟨#[]⟩ : ByteArray)]) ?_ 2 _ rfl; (with_reducible repeat (first | refine blk_drewN ?_ _ | refine blk_drew ?_ | refine blk_alloc ?_ _)); refine blk_put (cs := #[.string ((rd_T71 l0_2 x24_2).f0), .int .i64 0, .int .i64 0, .string (⟨#[]⟩ : ByteArray)]) ?_ 1 _ rfl; (with_reducible repeat (first | refine blk_drewN ?_ _ | refine blk_drew ?_ | refine blk_alloc ?_ _)); refine blk_put (cs := #[.string (⟨#[]⟩ : ByteArray), .int .i64 0, .int .i64 0, .string (⟨#[]⟩ : ByteArray)]) ?_ 0 _ rfl; (with_reducible repeat (first | refine blk_drewN ?_ _ | refine blk_drew ?_ | refine blk_alloc ?_ _)); exact BK268.out⟩
               have n2_ : Aside0 (Below w.heap.size w ((((w22.setCell ⟨gb268, 0, none⟩ (.string ((rd_T71 l0_2 x24_2).f0))).setCell ⟨gb268, 1, none⟩ (.int .i64 ((rd_T71 l0_2 x24_2).f1))).setCell ⟨gb268, 2, none⟩ (.int .i64 ((rd_T71 l0_2 x24_2).f2))).setCell ⟨gb268, 3, none⟩ (.string ((rd_T71 l0_2 x24_2).f3)))) := ⟨by repeat (first | (with_reducible first | exact HB.out | apply below_alloc | apply pw_below_drewN | apply below_drew1 | refine below_set ?_ GE264.out | refine below_set ?_ GE268.out) | exact HB.out)⟩
               (try clear BK264)
               (try clear BK268)
               (try clear HB)
               generalize ((((w22.setCell ⟨gb268, 0, none⟩ (.string ((rd_T71 l0_2 x24_2).f0))).setCell ⟨gb268, 1, none⟩ (.int .i64 ((rd_T71 l0_2 x24_2).f1))).setCell ⟨gb268, 2, none⟩ (.int .i64 ((rd_T71 l0_2 x24_2).f2))).setCell ⟨gb268, 3, none⟩ (.string ((rd_T71 l0_2 x24_2).f3))) = w35 at n0_ n1_ n2_ ⊢
               have BK264 := n0_
               have BK268 := n1_
               have HB := n2_
               clear n0_ n1_ n2_
               have n0_ := Aside0.mk (blk_drew BK264.out)
               have n1_ := Aside0.mk (blk_drew BK268.out)
               have n2_ := Aside0.mk (below_drew1 HB.out)
               clear BK264
               clear BK268
               clear HB
               have BK264 := n0_
               have BK268 := n1_
               have HB := n2_
               clear n0_ n1_ n2_
               have p270 : 0 ≤ ((ji28) : Int) := of_decide_eq_true zb6_9
               have q270 : (ji28) < (l0_2.length : Int) := of_decide_eq_true zb6_9
               obtain ⟨ad270, e270, hx270_0, hx270_1, hx270_2, hx270_3⟩ := at_T71 HR0_2.out (ji28) p270 q270
               have hw270_3 := hx270_3
               have hw270_2 := hx270_2
               have hw270_1 := hx270_1
               have hw270_0 := hx270_0
               obtain rfl : ad267 = ad270 := (by injection e270)
               replace hx270_0 := (HB.out.cell (World.block_lt_of_cell? w _ hx270_0)).trans hx270_0
               replace hx270_1 := (HB.out.cell (World.block_lt_of_cell? w _ hx270_1)).trans hx270_1
               replace hx270_2 := (HB.out.cell (World.block_lt_of_cell? w _ hx270_2)).trans hx270_2
               replace hx270_3 := (HB.out.cell (World.block_lt_of_cell? w _ hx270_3)).trans hx270_3
               replace p270 := eq_true p270
               replace q270 := eq_true q270
               refine start_ (n := 29) (S := fun w' => w'.cell? ⟨gb268, 0, none⟩ = some (.string ((rd_T71 l0_2 x24_2).f0)) ∧ w'.cell? ⟨gb268, 1, none⟩ = some (.int .i64 ((rd_T71 l0_2 x24_2).f1)) ∧ w'.cell? ⟨gb268, 2, none⟩ = some (.int .i64 ((rd_T71 l0_2 x24_2).f2)) ∧ w'.cell? ⟨gb268, 3, none⟩ = some (.string ((rd_T71 l0_2 x24_2).f3)) ∧ w'.cell? ⟨gb264, 0, none⟩ = some (.string a0_0) ∧ w'.cell? ⟨gb264, 1, none⟩ = some (.int .i64 a0_1) ∧ w'.cell? ⟨gb264, 2, none⟩ = some (.slice (some ad267) l0_2.length c0_2) ∧ w'.cell? (ad267.add (((ji28)).toNat * 4)) = some (.string ((rd_T71 l0_2 (ji28)).f0)) ∧ w'.cell? ⟨(ad267.add (((ji28)).toNat * 4)).block, (ad267.add (((ji28)).toNat * 4)).off + 1, none⟩ = some (.int .i64 ((rd_T71 l0_2 (ji28)).f1)) ∧ w'.cell? ⟨(ad267.add (((ji28)).toNat * 4)).block, (ad267.add (((ji28)).toNat * 4)).off + 2, none⟩ = some (.int .i64 ((rd_T71 l0_2 (ji28)).f2)) ∧ w'.cell? ⟨(ad267.add (((ji28)).toNat * 4)).block, (ad267.add (((ji28)).toNat * 4)).off + 3, none⟩ = some (.string ((rd_T71 l0_2 (ji28)).f3))) (ds := []) zm0_9 (by kernel_rfl) rfl rfl ⟨(blk_cell BK268.out 0).trans rfl, (blk_cell BK268.out 1).trans rfl, (blk_cell BK268.out 2).trans rfl, (blk_cell BK268.out 3).trans rfl, (blk_cell BK264.out 0).trans rfl, (blk_cell BK264.out 1).trans rfl, (blk_cell BK264.out 2).trans rfl, ((HB.out.cell (World.block_lt_of_cell? w _ hw270_0)).trans hw270_0), ((HB.out.cell (World.block_lt_of_cell? w _ hw270_1)).trans hw270_1), ((HB.out.cell (World.block_lt_of_cell? w _ hw270_2)).trans hw270_2), ((HB.out.cell (World.block_lt_of_cell? w _ hw270_3)).trans hw270_3)⟩ (fun hHeld => ?_); refine with_tabW impl_DialbackRight.tab6 impl_DialbackRight.bits6 (fun HT_ HW_ => ?_)
               generalize w35.drew = w36 at BK264 BK268 HB hx270_0 hx270_1 hx270_2 hx270_3 hHeld ⊢
               refine zp_9 0 (some 29) zm1_9 HT_ ?_
               refine zp_9 2 (some 31) zm2_9 HT_ ?_
               refine take_ (i := 1) (N := some 30) (v := ?_) (a' := ?_) zm3_9 rfl rfl (take_ofW HT_.out HW_.out (by kernel_rfl)) (fun _ _ _ h => h) (Or.inl ⟨by rfl, ?_⟩) hHeld ?_ ?_
               rotate_left
               ·
                rintro w' ⟨s0, s1, s2, s3, s4, s5, s6, s7, s8, s9, s10⟩
                go_simp
                with_reducible rfl
               rotate_left
               ·
                simp only [Act.put, List.setIfInBounds_toArray, List.set_cons_zero, List.set_cons_succ, i64_w, i32_w]
                rfl
               refine take_ (i := 3) (N := some 32) (v := ?_) (a' := ?_) zm4_9 rfl rfl (take_ofW HT_.out HW_.out (by kernel_rfl)) (fun _ _ _ h => h) (Or.inl ⟨by rfl, ?_⟩) hHeld ?_ ?_
               rotate_left
               ·
                rintro w' ⟨s0, s1, s2, s3, s4, s5, s6, s7, s8, s9, s10⟩
                go_simp
                with_reducible rfl
               rotate_left
               ·
                simp only [Act.put, List.setIfInBounds_toArray, List.set_cons_zero, List.set_cons_succ, i64_w, i32_w]
                rfl
               refine zp_9 4 (some 33) zm5_9 HT_ ?_
               refine one_ (i := 5) (N := some 34) zm6_9 rfl rfl (one_of HT_.out (by kernel_rfl)) (by decide) (fun K hK => ?_)
               refine goes_ Tryd.func51 (by kernel_rfl) rfl #[.int .i64 ((rd_T71 l0_2 x24_2).f1), .int .i64 1, .int .i64 (wrap64 (a0_1 - 1))] (by rfl) rfl rfl zb1_9 ?_
               with_reducible refine (impl_in.calls ((rd_T71 l0_2 x24_2).f1) 1 (wrap64 (a0_1 - 1)) true _ A25.out).mono ?_
               rintro e w' ⟨rfl, ⟨nd, rfl⟩⟩
               refine ⟨_, rfl, ?_⟩
               refine hK.out _ _ ⟨(blk_cell BK268.out 0).trans rfl, (blk_cell BK268.out 1).trans rfl, (blk_cell BK268.out 2).trans rfl, (blk_cell BK268.out 3).trans rfl, (blk_cell BK264.out 0).trans rfl, (blk_cell BK264.out 1).trans rfl, (blk_cell BK264.out 2).trans rfl, ((HB.out.cell (World.block_lt_of_cell? w _ hw270_0)).trans hw270_0), ((HB.out.cell (World.block_lt_of_cell? w _ hw270_1)).trans hw270_1), ((HB.out.cell (World.block_lt_of_cell? w _ hw270_2)).trans hw270_2), ((HB.out.cell (World.block_lt_of_cell? w _ hw270_3)).trans hw270_3)⟩ (fun hHeld => ?_)
               clear hK K
               refine norm_ (a' := ?_) ?_ ?_
               rotate_left
               ·
                show Act.put _ (some 34) _ = _
                simp only [Act.put, List.setIfInBounds_toArray, List.set_cons_zero, List.set_cons_succ, i64_w, i32_w]
                rfl
               refine zp_9 6 (some 35) zm7_9 HT_ ?_
               refine zp_9 7 (some 36) zm8_9 HT_ ?_
               refine zp_9 8 (some 37) zm9_9 HT_ ?_
               refine zp_9 9 (some 38) zm10_9 HT_ ?_
               refine zp_9 10 (some 39) zm11_9 HT_ ?_
               refine zp_9 11 (some 40) zm12_9 HT_ ?_
               refine zp_9 13 (some 42) zm13_9 HT_ ?_
               refine zp_9 14 (some 43) zm14_9 HT_ ?_
               refine zp_9 18 (some 47) zm15_9 HT_ ?_
               refine take_ (i := 12) (N := some 41) (v := ?_) (a' := ?_) zm16_9 rfl rfl (take_ofW HT_.out HW_.out (by kernel_rfl)) (fun _ _ _ h => h) (Or.inl ⟨by rfl, ?_⟩) hHeld ?_ ?_
               rotate_left
               ·
                rintro w' ⟨s0, s1, s2, s3, s4, s5, s6, s7, s8, s9, s10⟩
                go_simp
                with_reducible rfl
               rotate_left
               ·
                simp only [Act.put, List.setIfInBounds_toArray, List.set_cons_zero, List.set_cons_succ, i64_w, i32_w]
                rfl
               refine zp_9 15 (some 44) zm17_9 HT_ ?_
               refine zp_9 16 (some 45) zm18_9 HT_ ?_
               refine take_ (i := 17) (N := some 46) (v := ?_) (a' := ?_) zm19_9 rfl rfl (take_ofW HT_.out HW_.out (by kernel_rfl)) (fun _ _ _ h => h) (Or.inl ⟨by rfl, ?_⟩) hHeld ?_ ?_
               rotate_left
               ·
                rintro w' ⟨s0, s1, s2, s3, s4, s5, s6, s7, s8, s9, s10⟩
                go_simp
                with_reducible rfl
               rotate_left
               ·
                simp only [Act.put, List.setIfInBounds_toArray, List.set_cons_zero, List.set_cons_succ, i64_w, i32_w]
                rfl
               refine take_ (i := 19) (N := some 48) (v := ?_) (a' := ?_) zm20_9 rfl rfl (take_ofW HT_.out HW_.out (by kernel_rfl)) (fun _ _ _ h => h) (Or.inl ⟨by rfl, ?_⟩) hHeld ?_ ?_
               rotate_left
               ·
                rintro w' ⟨s0, s1, s2, s3, s4, s5, s6, s7, s8, s9, s10⟩
                go_simp
                with_reducible rfl
               rotate_left
               ·
                simp only [Act.put, List.setIfInBounds_toArray, List.set_cons_zero, List.set_cons_succ, i64_w, i32_w]
                rfl
               refine zp_9 20 (some 49) zm21_9 HT_ ?_
               refine zp_9 21 (some 50) zm22_9 HT_ ?_
               refine zp_9 22 (some 51) zm23_9 HT_ ?_
               refine zp_9 23 (some 52) zm24_9 HT_ ?_
               refine zp_9 24 (some 53) zm25_9 HT_ ?_
               refine take_ (i := 25) (N := some 54) (v := ?_) (a' := ?_) zm26_9 rfl rfl (take_ofW HT_.out HW_.out (by kernel_rfl)) (fun _ _ _ h => h) (Or.inl ⟨by rfl, ?_⟩) hHeld ?_ ?_
               rotate_left
               ·
                rintro w' ⟨s0, s1, s2, s3, s4, s5, s6, s7, s8, s9, s10⟩
                go_simp
                with_reducible rfl
               rotate_left
               ·
                simp only [Act.put, List.setIfInBounds_toArray, List.set_cons_zero, List.set_cons_succ, i64_w, i32_w]
                rfl
               refine one_ (i := 26) (N := some 55) zm27_9 rfl rfl (one_of HT_.out (by kernel_rfl)) (by decide) (fun K hK => ?_)
               refine goes_ Tryd.func49 (by kernel_rfl) rfl #[.string ((rd_T71 l0_2 x24_2).f0)] (by rfl) rfl rfl zb1_9 ?_
               with_reducible refine (impl_isDomain.calls k2 ((rd_T71 l0_2 x24_2).f0) t271 _ A34.out zb2_9).mono ?_
               rintro e w37 ⟨rfl, hb⟩
               refine ⟨_, rfl, ?_⟩
               have n0_ := Aside0.mk (blk_below (g := gb264) (o := .cells #[.string a0_0, .int .i64 a0_1, .slice (some ad267) l0_2.length c0_2] 40 (0, 0)) zb3_9 hb)
               have n1_ := Aside0.mk (blk_below (g := gb268) (o := .cells #[.string ((rd_T71 l0_2 x24_2).f0), .int .i64 ((rd_T71 l0_2 x24_2).f1), .int .i64 ((rd_T71 l0_2 x24_2).f2), .string ((rd_T71 l0_2 x24_2).f3)] 71 (0, 0)) (by (with_reducible repeat (first | refine blk_drewN ?_ _ | refine blk_drew ?_ | refine blk_alloc ?_ _)); exact BK268.out) hb)
               have n2_ := Aside0.mk (below_step (by repeat (first | (with_reducible first | exact HB.out | apply below_alloc | apply pw_below_drewN | apply below_drew1 | refine below_set ?_ GE264.out | refine below_set ?_ GE268.out) | exact HB.out)) hb)
               clear BK264
               clear BK268
               clear HB
               have BK264 := n0_
               have BK268 := n1_
               have HB := n2_
               clear n0_ n1_ n2_
               (try clear hb)
               (try clear hb2)
               (try clear hk)
               (try clear hi)
               refine hK.out _ _ ⟨(blk_cell BK268.out 0).trans rfl, (blk_cell BK268.out 1).trans rfl, (blk_cell BK268.out 2).trans rfl, (blk_cell BK268.out 3).trans rfl, (blk_cell BK264.out 0).trans rfl, (blk_cell BK264.out 1).trans rfl, (blk_cell BK264.out 2).trans rfl, ((HB.out.cell (World.block_lt_of_cell? w _ hw270_0)).trans hw270_0), ((HB.out.cell (World.block_lt_of_cell? w _ hw270_1)).trans hw270_1), ((HB.out.cell (World.block_lt_of_cell? w _ hw270_2)).trans hw270_2), ((HB.out.cell (World.block_lt_of_cell? w _ hw270_3)).trans hw270_3)⟩ (fun hHeld => ?_)
               clear hK K
               refine norm_ (a' := ?_) ?_ ?_
               rotate_left
               ·
                show Act.put _ (some 55) _ = _
                simp only [Act.put, List.setIfInBounds_toArray, List.set_cons_zero, List.set_cons_succ, i64_w, i32_w]
                rfl
               refine zp_9 27 (some 56) zm28_9 HT_ ?_
               refine zp_9 28 (some 57) zm29_9 HT_ ?_
               refine done_ (done_of HT_.out (by kernel_rfl)) ?_
               try go_wp2
               go_meet
               case rel => exact ⟨_, (!t271), zb5_9, H', ⟨by have := HJ1.out; have := HK2.out; first | omega | exact Nat.le_refl _⟩, ⟨by (with_reducible repeat (first | refine blk_drewN ?_ _ | refine blk_drew ?_ | refine blk_alloc ?_ _)); exact BK264.out⟩, ⟨by (with_reducible repeat (first | refine blk_drewN ?_ _ | refine blk_drew ?_ | refine blk_alloc ?_ _)); exact BK268.out⟩, ⟨by repeat (first | (with_reducible first | exact HB.out | apply below_alloc | apply pw_below_drewN | apply below_drew1 | refine below_set ?_ GE264.out | refine below_set ?_ GE268.out) | exact HB.out)⟩⟩
             ·
              rw [if_neg c30] at H
              exact absurd H (by simp)
            ·
             rw [if_neg c29] at H
             exact absurd H (by simp)
           ·
            rw [if_neg c27] at H
            have c27b0 : decide (0 < x24_2) = false := decide_eq_false c27
            clear c27
            (first | rw [c27b0] | (simp only [i64_w, i32_w]; rw [c27b0]) | skip)
            replace H := Option.bind_eq_some_iff.mp H
            obtain ⟨t272, A380, H⟩ := H
            replace H : (impl_DialbackRight.j2 k2 l0_2 (l0_2.length : Int) x24_2 (!t272) a0_0 a0_1 l0_2 ((rd_T71 l0_2 x24_2).f0) ((rd_T71 l0_2 x24_2).f1) ((rd_T71 l0_2 x24_2).f2) ((rd_T71 l0_2 x24_2).f3)) = some r := H
            have A38 := Aside0.mk A380
            clear A380
            have H' := Aside0.mk H
            clear H
            try go_wp2
            have n0_ : Aside0 (((((w22.setCell ⟨gb268, 0, none⟩ (.string ((rd_T71 l0_2 x24_2).f0))).setCell ⟨gb268, 1, none⟩ (.int .i64 ((rd_T71 l0_2 x24_2).f1))).setCell ⟨gb268, 2, none⟩ (.int .i64 ((rd_T71 l0_2 x24_2).f2))).setCell ⟨gb268, 3, none⟩ (.string ((rd_T71 l0_2 x24_2).f3))).heap[gb264]? = some (.cells #[.string a0_0, .int .i64 a0_1, .slice (some ad267) l0_2.length c0_2] 40 (0, 0))) := ⟨by (with_reducible repeat (first | refine blk_drewN ?_ _ | refine blk_drew ?_ | refine blk_alloc ?_ _)); refine blk_far ?_ NB264_268.out _; (with_reducible repeat (first | refine blk_drewN ?_ _ | refine blk_drew ?_ | refine blk_alloc ?_ _)); refine blk_far ?_ NB264_268.out _; (with_reducible repeat (first | refine blk_drewN ?_ _ | refine blk_drew ?_ | refine blk_alloc ?_ _)); refine blk_far ?_ NB264_268.out _; (with_reducible repeat (first | refine blk_drewN ?_ _ | refine blk_drew ?_ | refine blk_alloc ?_ _)); refine blk_far ?_ NB264_268.out _; (with_reducible repeat (first | refine blk_drewN ?_ _ | refine blk_drew ?_ | refine blk_alloc ?_ _)); exact BK264.out⟩
            have n1_ : Aside0 (((((w22.setCell ⟨gb268, 0, none⟩ (.string ((rd_T71 l0_2 x24_2).f0))).setCell ⟨gb268, 1, none⟩ (.int .i64 ((rd_T71 l0_2 x24_2).f1))).setCell ⟨gb268, 2, none⟩ (.int .i64 ((rd_T71 l0_2 x24_2).f2))).setCell ⟨gb268, 3, none⟩ (.string ((rd_T71 l0_2 x24_2).f3))).heap[gb268]? = some (.cells #[.string ((rd_T71 l0_2 x24_2).f0), .int .i64 ((rd_T71 l0_2 x24_2).f1), .int .i64 ((rd_T71 l0_2 x24_2).f2), .string ((rd_T71 l0_2 x24_2).f3)] 71 (0, 0))) := ⟨by (with_reducible repeat (first | refine blk_drewN ?_ _ | refine blk_drew ?_ | refine blk_alloc ?_ _)); refine blk_put (cs := #[.string ((rd_T71 l0_2 x24_2).f0), .int .i64 ((rd_T71 l0_2 x24_2).f1), .int .i64 ((rd_T71 l0_2 x24_2).f2), .string (⟨#[]⟩ : ByteArray)]) ?_ 3 _ rfl; (with_reducible repeat (first | refine blk_drewN ?_ _ | refine blk_drew ?_ | refine blk_alloc ?_ _)); refine blk_put (cs := #[.string ((rd_T71 l0_2 x24_2).f0), .int .i64 ((rd_T71 l0_2 x24_2).f1), .int .i64 0, .string (⟨#[]⟩ : ByteArray)]) ?_ 2 _ rfl; (with_reducible repeat (first | refine blk_drewN ?_ _ | refine blk_drew ?_ | refine blk_alloc ?_ _)); refine blk_put (cs := #[.string ((rd_T71 l0_2 x24_2).f0), .int .i64 0, .int .i64 0, .string (⟨#[]⟩ : ByteArray)]) ?_ 1 _ rfl; (with_reducible repeat (first | refine blk_drewN ?_ _ | refine blk_drew ?_ | refine blk_alloc ?_ _)); refine blk_put (cs := #[.string (⟨#[]⟩ : ByteArray), .int .i64 0, .int .i64 0, .string (⟨#[]⟩ : ByteArray)]) ?_ 0 _ rfl; (with_reducible repeat (first | refine blk_drewN ?_ _ | refine blk_drew ?_ | refine blk_alloc ?_ _)); exact BK268.out⟩
            have n2_ : Aside0 (Below w.heap.size w ((((w22.setCell ⟨gb268, 0, none⟩ (.string ((rd_T71 l0_2 x24_2).f0))).setCell ⟨gb268, 1, none⟩ (.int .i64 ((rd_T71 l0_2 x24_2).f1))).setCell ⟨gb268, 2, none⟩ (.int .i64 ((rd_T71 l0_2 x24_2).f2))).setCell ⟨gb268, 3, none⟩ (.string ((rd_T71 l0_2 x24_2).f3)))) := ⟨by repeat (first | (with_reducible first | exact HB.out | apply below_alloc | apply pw_below_drewN | apply below_drew1 | refine below_set ?_ GE264.out | refine below_set ?_ GE268.out) | exact HB.out)⟩
            (try clear BK264)
            (try clear BK268)
            (try clear HB)
            generalize ((((w22.setCell ⟨gb268, 0, none⟩ (.string ((rd_T71 l0_2 x24_2).f0))).setCell ⟨gb268, 1, none⟩ (.int .i64 ((rd_T71 l0_2 x24_2).f1))).setCell ⟨gb268, 2, none⟩ (.int .i64 ((rd_T71 l0_2 x24_2).f2))).setCell ⟨gb268, 3, none⟩ (.string ((rd_T71 l0_2 x24_2).f3))) = w39 at n0_ n1_ n2_ ⊢
            have BK264 := n0_
            have BK268 := n1_
            have HB := n2_
            clear n0_ n1_ n2_
            have n0_ := Aside0.mk (blk_drew BK264.out)
            have n1_ := Aside0.mk (blk_drew BK268.out)
            have n2_ := Aside0.mk (below_drew1 HB.out)
            clear BK264
            clear BK268
            clear HB
            have BK264 := n0_
            have BK268 := n1_
            have HB := n2_
            clear n0_ n1_ n2_
            refine start_ (n := 29) (S := fun w' => w'.cell? ⟨gb268, 0, none⟩ = some (.string ((rd_T71 l0_2 x24_2).f0)) ∧ w'.cell? ⟨gb268, 1, none⟩ = some (.int .i64 ((rd_T71 l0_2 x24_2).f1)) ∧ w'.cell? ⟨gb268, 2, none⟩ = some (.int .i64 ((rd_T71 l0_2 x24_2).f2)) ∧ w'.cell? ⟨gb268, 3, none⟩ = some (.string ((rd_T71 l0_2 x24_2).f3)) ∧ w'.cell? ⟨gb264, 0, none⟩ = some (.string a0_0) ∧ w'.cell? ⟨gb264, 1, none⟩ = some (.int .i64 a0_1) ∧ w'.cell? ⟨gb264, 2, none⟩ = some (.slice (some ad267) l0_2.length c0_2)) (ds := []) zm0_9 (by kernel_rfl) rfl rfl ⟨(blk_cell BK268.out 0).trans rfl, (blk_cell BK268.out 1).trans rfl, (blk_cell BK268.out 2).trans rfl, (blk_cell BK268.out 3).trans rfl, (blk_cell BK264.out 0).trans rfl, (blk_cell BK264.out 1).trans rfl, (blk_cell BK264.out 2).trans rfl⟩ (fun hHeld => ?_); refine with_tabW impl_DialbackRight.tab6 impl_DialbackRight.bits6 (fun HT_ HW_ => ?_)
            generalize w39.drew = w40 at BK264 BK268 HB hHeld ⊢
            refine zp_9 0 (some 29) zm1_9 HT_ ?_
            refine zp_9 2 (some 31) zm2_9 HT_ ?_
            refine take_ (i := 1) (N := some 30) (v := ?_) (a' := ?_) zm3_9 rfl rfl (take_ofW HT_.out HW_.out (by kernel_rfl)) (fun _ _ _ h => h) (Or.inl ⟨by rfl, ?_⟩) hHeld ?_ ?_
            rotate_left
            ·
             rintro w' ⟨s0, s1, s2, s3, s4, s5, s6⟩
             go_simp
             with_reducible rfl
            rotate_left
            ·
             simp only [Act.put, List.setIfInBounds_toArray, List.set_cons_zero, List.set_cons_succ, i64_w, i32_w]
             rfl
            refine take_ (i := 3) (N := some 32) (v := ?_) (a' := ?_) zm4_9 rfl rfl (take_ofW HT_.out HW_.out (by kernel_rfl)) (fun _ _ _ h => h) (Or.inl ⟨by rfl, ?_⟩) hHeld ?_ ?_
            rotate_left
            ·
             rintro w' ⟨s0, s1, s2, s3, s4, s5, s6⟩
             go_simp
             with_reducible rfl
            rotate_left
            ·
             simp only [Act.put, List.setIfInBounds_toArray, List.set_cons_zero, List.set_cons_succ, i64_w, i32_w]
             rfl
            refine zp_9 4 (some 33) zm5_9 HT_ ?_
            refine one_ (i := 5) (N := some 34) zm6_9 rfl rfl (one_of HT_.out (by kernel_rfl)) (by decide) (fun K hK => ?_)
            refine goes_ Tryd.func51 (by kernel_rfl) rfl #[.int .i64 ((rd_T71 l0_2 x24_2).f1), .int .i64 1, .int .i64 (wrap64 (a0_1 - 1))] (by rfl) rfl rfl zb1_9 ?_
            with_reducible refine (impl_in.calls ((rd_T71 l0_2 x24_2).f1) 1 (wrap64 (a0_1 - 1)) true _ A25.out).mono ?_
            rintro e w' ⟨rfl, ⟨nd, rfl⟩⟩
            refine ⟨_, rfl, ?_⟩
            refine hK.out _ _ ⟨(blk_cell BK268.out 0).trans rfl, (blk_cell BK268.out 1).trans rfl, (blk_cell BK268.out 2).trans rfl, (blk_cell BK268.out 3).trans rfl, (blk_cell BK264.out 0).trans rfl, (blk_cell BK264.out 1).trans rfl, (blk_cell BK264.out 2).trans rfl⟩ (fun hHeld => ?_)
            clear hK K
            refine norm_ (a' := ?_) ?_ ?_
            rotate_left
            ·
             show Act.put _ (some 34) _ = _
             simp only [Act.put, List.setIfInBounds_toArray, List.set_cons_zero, List.set_cons_succ, i64_w, i32_w]
             rfl
            refine zp_9 6 (some 35) zm7_9 HT_ ?_
            refine zp_9 7 (some 36) zm8_9 HT_ ?_
            refine zp_9 8 (some 37) zm9_9 HT_ ?_
            refine zp_9 9 (some 38) zm10_9 HT_ ?_
            refine zp_9 10 (some 39) zm11_9 HT_ ?_
            refine zu_9 11 (some 40) zm12_9 HT_ ?_
            refine zu_9 12 (some 41) zm30_9 HT_ ?_
            refine zu_9 13 (some 42) zm31_9 HT_ ?_
            refine zu_9 14 (some 43) zm32_9 HT_ ?_
            refine zu_9 15 (some 44) zm33_9 HT_ ?_
            refine zu_9 16 (some 45) zm34_9 HT_ ?_
            refine zu_9 17 (some 46) zm35_9 HT_ ?_
            refine zu_9 18 (some 47) zm19_9 HT_ ?_
            refine zu_9 19 (some 48) zm20_9 HT_ ?_
            refine zu_9 20 (some 49) zm21_9 HT_ ?_
            refine zp_9 21 (some 50) zm22_9 HT_ ?_
            refine zp_9 22 (some 51) zm23_9 HT_ ?_
            refine zp_9 23 (some 52) zm24_9 HT_ ?_
            refine zp_9 24 (some 53) zm25_9 HT_ ?_
            refine take_ (i := 25) (N := some 54) (v := ?_) (a' := ?_) zm26_9 rfl rfl (take_ofW HT_.out HW_.out (by kernel_rfl)) (fun _ _ _ h => h) (Or.inl ⟨by rfl, ?_⟩) hHeld ?_ ?_
            rotate_left
            ·
             rintro w' ⟨s0, s1, s2, s3, s4, s5, s6⟩
             go_simp
             with_reducible rfl
            rotate_left
            ·
             simp only [Act.put, List.setIfInBounds_toArray, List.set_cons_zero, List.set_cons_succ, i64_w, i32_w]
             rfl
            refine one_ (i := 26) (N := some 55) zm27_9 rfl rfl (one_of HT_.out (by kernel_rfl)) (by decide) (fun K hK => ?_)
            refine goes_ Tryd.func49 (by kernel_rfl) rfl #[.string ((rd_T71 l0_2 x24_2).f0)] (by rfl) rfl rfl zb1_9 ?_
            with_reducible refine (impl_isDomain.calls k2 ((rd_T71 l0_2 x24_2).f0) t272 _ A38.out zb2_9).mono ?_
            rintro e w41 ⟨rfl, hb⟩
            refine ⟨_, rfl, ?_⟩
            have n0_ := Aside0.mk (blk_below (g := gb264) (o := .cells #[.string a0_0, .int .i64 a0_1, .slice (some ad267) l0_2.length c0_2] 40 (0, 0)) zb3_9 hb)
            have n1_ := Aside0.mk (blk_below (g := gb268) (o := .cells #[.string ((rd_T71 l0_2 x24_2).f0), .int .i64 ((rd_T71 l0_2 x24_2).f1), .int .i64 ((rd_T71 l0_2 x24_2).f2), .string ((rd_T71 l0_2 x24_2).f3)] 71 (0, 0)) (by (with_reducible repeat (first | refine blk_drewN ?_ _ | refine blk_drew ?_ | refine blk_alloc ?_ _)); exact BK268.out) hb)
            have n2_ := Aside0.mk (below_step (by repeat (first | (with_reducible first | exact HB.out | apply below_alloc | apply pw_below_drewN | apply below_drew1 | refine below_set ?_ GE264.out | refine below_set ?_ GE268.out) | exact HB.out)) hb)
            clear BK264
            clear BK268
            clear HB
            have BK264 := n0_
            have BK268 := n1_
            have HB := n2_
            clear n0_ n1_ n2_
            (try clear hb)
            (try clear hb2)
            (try clear hk)
            (try clear hi)
            refine hK.out _ _ ⟨(blk_cell BK268.out 0).trans rfl, (blk_cell BK268.out 1).trans rfl, (blk_cell BK268.out 2).trans rfl, (blk_cell BK268.out 3).trans rfl, (blk_cell BK264.out 0).trans rfl, (blk_cell BK264.out 1).trans rfl, (blk_cell BK264.out 2).trans rfl⟩ (fun hHeld => ?_)
            clear hK K
            refine norm_ (a' := ?_) ?_ ?_
            rotate_left
            ·
             show Act.put _ (some 55) _ = _
             simp only [Act.put, List.setIfInBounds_toArray, List.set_cons_zero, List.set_cons_succ, i64_w, i32_w]
             rfl
            refine zp_9 27 (some 56) zm28_9 HT_ ?_
            refine zp_9 28 (some 57) zm29_9 HT_ ?_
            refine done_ (done_of HT_.out (by kernel_rfl)) ?_
            try go_wp2
            go_meet
            case rel => exact ⟨_, (!t272), zb5_9, H', ⟨by have := HJ1.out; have := HK2.out; first | omega | exact Nat.le_refl _⟩, ⟨by (with_reducible repeat (first | refine blk_drewN ?_ _ | refine blk_drew ?_ | refine blk_alloc ?_ _)); exact BK264.out⟩, ⟨by (with_reducible repeat (first | refine blk_drewN ?_ _ | refine blk_drew ?_ | refine blk_alloc ?_ _)); exact BK268.out⟩, ⟨by repeat (first | (with_reducible first | exact HB.out | apply below_alloc | apply pw_below_drewN | apply below_drew1 | refine below_set ?_ GE264.out | refine below_set ?_ GE268.out) | exact HB.out)⟩⟩
          ·
           replace c26 := Bool.eq_false_iff.mpr c26
           subst c26
           have H1 : (impl_DialbackRight.j2 k2 l0_2 (l0_2.length : Int) x24_2 true a0_0 a0_1 l0_2 ((rd_T71 l0_2 x24_2).f0) ((rd_T71 l0_2 x24_2).f1) ((rd_T71 l0_2 x24_2).f2) ((rd_T71 l0_2 x24_2).f3)) = some r := by rw [if_neg (show ¬ (false = true) by decide)] at H; exact H
           clear H
           have H := H1
           clear H1
           have H' := Aside0.mk H
           clear H
           try go_wp2
           have n0_ : Aside0 (((((w22.setCell ⟨gb268, 0, none⟩ (.string ((rd_T71 l0_2 x24_2).f0))).setCell ⟨gb268, 1, none⟩ (.int .i64 ((rd_T71 l0_2 x24_2).f1))).setCell ⟨gb268, 2, none⟩ (.int .i64 ((rd_T71 l0_2 x24_2).f2))).setCell ⟨gb268, 3, none⟩ (.string ((rd_T71 l0_2 x24_2).f3))).heap[gb264]? = some (.cells #[.string a0_0, .int .i64 a0_1, .slice (some ad267) l0_2.length c0_2] 40 (0, 0))) := ⟨by (with_reducible repeat (first | refine blk_drewN ?_ _ | refine blk_drew ?_ | refine blk_alloc ?_ _)); refine blk_far ?_ NB264_268.out _; (with_reducible repeat (first | refine blk_drewN ?_ _ | refine blk_drew ?_ | refine blk_alloc ?_ _)); refine blk_far ?_ NB264_268.out _; (with_reducible repeat (first | refine blk_drewN ?_ _ | refine blk_drew ?_ | refine blk_alloc ?_ _)); refine blk_far ?_ NB264_268.out _; (with_reducible repeat (first | refine blk_drewN ?_ _ | refine blk_drew ?_ | refine blk_alloc ?_ _)); refine blk_far ?_ NB264_268.out _; (with_reducible repeat (first | refine blk_drewN ?_ _ | refine blk_drew ?_ | refine blk_alloc ?_ _)); exact BK264.out⟩
           have n1_ : Aside0 (((((w22.setCell ⟨gb268, 0, none⟩ (.string ((rd_T71 l0_2 x24_2).f0))).setCell ⟨gb268, 1, none⟩ (.int .i64 ((rd_T71 l0_2 x24_2).f1))).setCell ⟨gb268, 2, none⟩ (.int .i64 ((rd_T71 l0_2 x24_2).f2))).setCell ⟨gb268, 3, none⟩ (.string ((rd_T71 l0_2 x24_2).f3))).heap[gb268]? = some (.cells #[.string ((rd_T71 l0_2 x24_2).f0), .int .i64 ((rd_T71 l0_2 x24_2).f1), .int .i64 ((rd_T71 l0_2 x24_2).f2), .string ((rd_T71 l0_2 x24_2).f3)] 71 (0, 0))) := ⟨by (with_reducible repeat (first | refine blk_drewN ?_ _ | refine blk_drew ?_ | refine blk_alloc ?_ _)); refine blk_put (cs := #[.string ((rd_T71 l0_2 x24_2).f0), .int .i64 ((rd_T71 l0_2 x24_2).f1), .int .i64 ((rd_T71 l0_2 x24_2).f2), .string (⟨#[]⟩ : ByteArray)]) ?_ 3 _ rfl; (with_reducible repeat (first | refine blk_drewN ?_ _ | refine blk_drew ?_ | refine blk_alloc ?_ _)); refine blk_put (cs := #[.string ((rd_T71 l0_2 x24_2).f0), .int .i64 ((rd_T71 l0_2 x24_2).f1), .int .i64 0, .string (⟨#[]⟩ : ByteArray)]) ?_ 2 _ rfl; (with_reducible repeat (first | refine blk_drewN ?_ _ | refine blk_drew ?_ | refine blk_alloc ?_ _)); refine blk_put (cs := #[.string ((rd_T71 l0_2 x24_2).f0), .int .i64 0, .int .i64 0, .string (⟨#[]⟩ : ByteArray)]) ?_ 1 _ rfl; (with_reducible repeat (first | refine blk_drewN ?_ _ | refine blk_drew ?_ | refine blk_alloc ?_ _)); refine blk_put (cs := #[.string (⟨#[]⟩ : ByteArray), .int .i64 0, .int .i64 0, .string (⟨#[]⟩ : ByteArray)]) ?_ 0 _ rfl; (with_reducible repeat (first | refine blk_drewN ?_ _ | refine blk_drew ?_ | refine blk_alloc ?_ _)); exact BK268.out⟩
           have n2_ : Aside0 (Below w.heap.size w ((((w22.setCell ⟨gb268, 0, none⟩ (.string ((rd_T71 l0_2 x24_2).f0))).setCell ⟨gb268, 1, none⟩ (.int .i64 ((rd_T71 l0_2 x24_2).f1))).setCell ⟨gb268, 2, none⟩ (.int .i64 ((rd_T71 l0_2 x24_2).f2))).setCell ⟨gb268, 3, none⟩ (.string ((rd_T71 l0_2 x24_2).f3)))) := ⟨by repeat (first | (with_reducible first | exact HB.out | apply below_alloc | apply pw_below_drewN | apply below_drew1 | refine below_set ?_ GE264.out | refine below_set ?_ GE268.out) | exact HB.out)⟩
           (try clear BK264)
           (try clear BK268)
           (try clear HB)
           generalize ((((w22.setCell ⟨gb268, 0, none⟩ (.string ((rd_T71 l0_2 x24_2).f0))).setCell ⟨gb268, 1, none⟩ (.int .i64 ((rd_T71 l0_2 x24_2).f1))).setCell ⟨gb268, 2, none⟩ (.int .i64 ((rd_T71 l0_2 x24_2).f2))).setCell ⟨gb268, 3, none⟩ (.string ((rd_T71 l0_2 x24_2).f3))) = w42 at n0_ n1_ n2_ ⊢
           have BK264 := n0_
           have BK268 := n1_
           have HB := n2_
           clear n0_ n1_ n2_
           have n0_ := Aside0.mk (blk_drew BK264.out)
           have n1_ := Aside0.mk (blk_drew BK268.out)
           have n2_ := Aside0.mk (below_drew1 HB.out)
           clear BK264
           clear BK268
           clear HB
           have BK264 := n0_
           have BK268 := n1_
           have HB := n2_
           clear n0_ n1_ n2_
           refine start_ (n := 29) (S := fun w' => w'.cell? ⟨gb268, 0, none⟩ = some (.string ((rd_T71 l0_2 x24_2).f0)) ∧ w'.cell? ⟨gb268, 1, none⟩ = some (.int .i64 ((rd_T71 l0_2 x24_2).f1)) ∧ w'.cell? ⟨gb268, 2, none⟩ = some (.int .i64 ((rd_T71 l0_2 x24_2).f2)) ∧ w'.cell? ⟨gb268, 3, none⟩ = some (.string ((rd_T71 l0_2 x24_2).f3)) ∧ w'.cell? ⟨gb264, 0, none⟩ = some (.string a0_0) ∧ w'.cell? ⟨gb264, 1, none⟩ = some (.int .i64 a0_1) ∧ w'.cell? ⟨gb264, 2, none⟩ = some (.slice (some ad267) l0_2.length c0_2)) (ds := []) zm0_9 (by kernel_rfl) rfl rfl ⟨(blk_cell BK268.out 0).trans rfl, (blk_cell BK268.out 1).trans rfl, (blk_cell BK268.out 2).trans rfl, (blk_cell BK268.out 3).trans rfl, (blk_cell BK264.out 0).trans rfl, (blk_cell BK264.out 1).trans rfl, (blk_cell BK264.out 2).trans rfl⟩ (fun hHeld => ?_); refine with_tabW impl_DialbackRight.tab6 impl_DialbackRight.bits6 (fun HT_ HW_ => ?_)
           generalize w42.drew = w43 at BK264 BK268 HB hHeld ⊢
           refine zp_9 0 (some 29) zm1_9 HT_ ?_
           refine zp_9 2 (some 31) zm2_9 HT_ ?_
           refine take_ (i := 1) (N := some 30) (v := ?_) (a' := ?_) zm3_9 rfl rfl (take_ofW HT_.out HW_.out (by kernel_rfl)) (fun _ _ _ h => h) (Or.inl ⟨by rfl, ?_⟩) hHeld ?_ ?_
           rotate_left
           ·
            rintro w' ⟨s0, s1, s2, s3, s4, s5, s6⟩
            go_simp
            with_reducible rfl
           rotate_left
           ·
            simp only [Act.put, List.setIfInBounds_toArray, List.set_cons_zero, List.set_cons_succ, i64_w, i32_w]
            rfl
           refine take_ (i := 3) (N := some 32) (v := ?_) (a' := ?_) zm4_9 rfl rfl (take_ofW HT_.out HW_.out (by kernel_rfl)) (fun _ _ _ h => h) (Or.inl ⟨by rfl, ?_⟩) hHeld ?_ ?_
           rotate_left
           ·
            rintro w' ⟨s0, s1, s2, s3, s4, s5, s6⟩
            go_simp
            with_reducible rfl
           rotate_left
           ·
            simp only [Act.put, List.setIfInBounds_toArray, List.set_cons_zero, List.set_cons_succ, i64_w, i32_w]
            rfl
           refine zp_9 4 (some 33) zm5_9 HT_ ?_
           refine one_ (i := 5) (N := some 34) zm6_9 rfl rfl (one_of HT_.out (by kernel_rfl)) (by decide) (fun K hK => ?_)
           refine goes_ Tryd.func51 (by kernel_rfl) rfl #[.int .i64 ((rd_T71 l0_2 x24_2).f1), .int .i64 1, .int .i64 (wrap64 (a0_1 - 1))] (by rfl) rfl rfl zb1_9 ?_
           with_reducible refine (impl_in.calls ((rd_T71 l0_2 x24_2).f1) 1 (wrap64 (a0_1 - 1)) false _ A25.out).mono ?_
           rintro e w' ⟨rfl, ⟨nd, rfl⟩⟩
           refine ⟨_, rfl, ?_⟩
           refine hK.out _ _ ⟨(blk_cell BK268.out 0).trans rfl, (blk_cell BK268.out 1).trans rfl, (blk_cell BK268.out 2).trans rfl, (blk_cell BK268.out 3).trans rfl, (blk_cell BK264.out 0).trans rfl, (blk_cell BK264.out 1).trans rfl, (blk_cell BK264.out 2).trans rfl⟩ (fun hHeld => ?_)
           clear hK K
           refine norm_ (a' := ?_) ?_ ?_
           rotate_left
           ·
            show Act.put _ (some 34) _ = _
            simp only [Act.put, List.setIfInBounds_toArray, List.set_cons_zero, List.set_cons_succ, i64_w, i32_w]
            rfl
           refine zp_9 6 (some 35) zm7_9 HT_ ?_
           refine zp_9 7 (some 36) zm8_9 HT_ ?_
           refine zu_9 8 (some 37) zm9_9 HT_ ?_
           refine zu_9 9 (some 38) zm10_9 HT_ ?_
           refine zu_9 10 (some 39) zm11_9 HT_ ?_
           refine zu_9 11 (some 40) zm12_9 HT_ ?_
           refine zu_9 12 (some 41) zm30_9 HT_ ?_
           refine zu_9 13 (some 42) zm31_9 HT_ ?_
           refine zu_9 14 (some 43) zm32_9 HT_ ?_
           refine zu_9 15 (some 44) zm33_9 HT_ ?_
           refine zu_9 16 (some 45) zm34_9 HT_ ?_
           refine zu_9 17 (some 46) zm35_9 HT_ ?_
           refine zu_9 18 (some 47) zm19_9 HT_ ?_
           refine zu_9 19 (some 48) zm20_9 HT_ ?_
           refine zu_9 20 (some 49) zm21_9 HT_ ?_
           refine zu_9 21 (some 50) zm22_9 HT_ ?_
           refine zp_9 22 (some 51) zm23_9 HT_ ?_
           refine zp_9 23 (some 52) zm24_9 HT_ ?_
           refine zu_9 24 (some 53) zm25_9 HT_ ?_
           refine zu_9 25 (some 54) zm26_9 HT_ ?_
           refine zu_9 26 (some 55) zm27_9 HT_ ?_
           refine zu_9 27 (some 56) zm28_9 HT_ ?_
           refine zp_9 28 (some 57) zm29_9 HT_ ?_
           refine done_ (done_of HT_.out (by kernel_rfl)) ?_
           try go_wp2
           go_meet
           case rel => exact ⟨_, (true), zb5_9, H', ⟨by have := HJ1.out; have := HK2.out; first | omega | exact Nat.le_refl _⟩, ⟨by (with_reducible repeat (first | refine blk_drewN ?_ _ | refine blk_drew ?_ | refine blk_alloc ?_ _)); exact BK264.out⟩, ⟨by (with_reducible repeat (first | refine blk_drewN ?_ _ | refine blk_drew ?_ | refine blk_alloc ?_ _)); exact BK268.out⟩, ⟨by repeat (first | (with_reducible first | exact HB.out | apply below_alloc | apply pw_below_drewN | apply below_drew1 | refine below_set ?_ GE264.out | refine below_set ?_ GE268.out) | exact HB.out)⟩⟩
         case rest =>
          clear HC21
          try clear c2
          try clear p2
          try clear c3
          try clear c4
          try clear c5
          try clear p6
          try clear c26
          try clear c27
          try clear c27b0
          try clear c29
          try clear c30
          obtain ⟨kq, x57_20, rfl, HA, HJ20, BK264, BK268, HB⟩ := hcut
          cases kq with
          | zero => exact absurd HA.out (by simp [impl_DialbackRight.j2])
          | succ kj20 =>
           have H := HA.out
           clear HA
           simp only [impl_DialbackRight.j2] at H
           by_cases c44 : x57_20 = true
           ·
            subst c44
            have H1 : (some false) = some r := by rw [if_pos rfl] at H; exact H
            clear H
            have H := H1
            clear H1
            obtain rfl := Option.some.inj H
            go_wp2
            go_ret
            exact ⟨by first | rfl | (simp [errW_none, errW_some] <;> rfl) | (simp [*, errW_none, errW_some] <;> rfl), by repeat (first | (with_reducible first | exact HB.out | apply below_alloc | apply pw_below_drewN | apply below_drew1 | refine below_set ?_ GE264.out | refine below_set ?_ GE268.out) | exact HB.out)⟩
           ·
            replace c44 := Bool.eq_false_iff.mpr c44
            subst c44
            have H1 : ((impl_in.f ((rd_T71 l0_2 x24_2).f2) 0 3).bind fun t273 => (if t273 = true then (if (((rd_T71 l0_2 x24_2).f3).size : Int) > 64 then (some false) else (if ((((rd_T71 l0_2 x24_2).f3).toList == ([] : List UInt8)) != (((rd_T71 l0_2 x24_2).f2) == 0)) = true then (some false) else (impl_DialbackRight.l0 kj20 l0_2 (l0_2.length : Int) (wrap64 (x24_2 + 1)) a0_0 a0_1 l0_2))) else (some false))) = some r := by rw [if_neg (show ¬ (false = true) by decide)] at H; exact H
            clear H
            have H := H1
            clear H1
            replace H := Option.bind_eq_some_iff.mp H
            obtain ⟨t273, A450, H⟩ := H
            replace H : (if t273 = true then (if (((rd_T71 l0_2 x24_2).f3).size : Int) > 64 then (some false) else (if ((((rd_T71 l0_2 x24_2).f3).toList == ([] : List UInt8)) != (((rd_T71 l0_2 x24_2).f2) == 0)) = true then (some false) else (impl_DialbackRight.l0 kj20 l0_2 (l0_2.length : Int) (wrap64 (x24_2 + 1)) a0_0 a0_1 l0_2))) else (some false)) = some r := H
            have A45 := Aside0.mk A450
            clear A450
            by_cases c46 : t273 = true
            ·
             subst c46
             have H1 : (if (((rd_T71 l0_2 x24_2).f3).size : Int) > 64 then (some false) else (if ((((rd_T71 l0_2 x24_2).f3).toList == ([] : List UInt8)) != (((rd_T71 l0_2 x24_2).f2) == 0)) = true then (some false) else (impl_DialbackRight.l0 kj20 l0_2 (l0_2.length : Int) (wrap64 (x24_2 + 1)) a0_0 a0_1 l0_2))) = some r := by rw [if_pos rfl] at H; exact H
             clear H
             have H := H1
             clear H1
             by_cases c47 : (((rd_T71 l0_2 x24_2).f3).size : Int) > 64
             ·
              rw [if_pos c47] at H
              have c47b0 : decide (64 < (((rd_T71 l0_2 x24_2).f3).size : Int)) = true := decide_eq_true c47
              have c47b1 : decide (64 < ((rd_T71 l0_2 x24_2).f3).size) = true := decide_eq_true (by omega)
              clear c47
              obtain rfl := Option.some.inj H
              have hnb48 := NB268_264.out
              have hnc48 := NB264_268.out
              have hcz49_0 := bcq_9 BK268.out 0
              have hcz49_1 := bcq_9 BK268.out 1
              have hcz49_2 := bcq_9 BK268.out 2
              have hcz49_3 := bcq_9 BK268.out 3
              have hfz49_0 := blk_frozen BK268.out 0
              have hfz49_1 := blk_frozen BK268.out 1
              have hfz49_2 := blk_frozen BK268.out 2
              have hfz49_3 := blk_frozen BK268.out 3
              go_wp2_with (first | ((with_reducible refine gate_callee (f := 51) rfl ?_); refine goesL_ (some 60) rfl rfl Tryd.func51 (by kernel_rfl) rfl #[.int .i64 ((rd_T71 l0_2 x24_2).f2), .int .i64 0, .int .i64 3] rfl zb1_9 ?_; (with_reducible refine (impl_in.calls ((rd_T71 l0_2 x24_2).f2) 0 3 true _ A45.out).mono ?_); rintro e w' ⟨rfl, ⟨nd, rfl⟩⟩; refine ⟨_, rfl, ?_⟩))
              go_ret
              exact ⟨by first | rfl | (simp [errW_none, errW_some] <;> rfl) | (simp [*, errW_none, errW_some] <;> rfl), by repeat (first | (with_reducible first | exact HB.out | apply below_alloc | apply pw_below_drewN | apply below_drew1 | refine below_set ?_ GE264.out | refine below_set ?_ GE268.out) | exact HB.out)⟩
             ·
              rw [if_neg c47] at H
              have c47b0 : decide (64 < (((rd_T71 l0_2 x24_2).f3).size : Int)) = false := decide_eq_false c47
              have c47b1 : decide (64 < ((rd_T71 l0_2 x24_2).f3).size) = false := decide_eq_false (by omega)
              clear c47
              by_cases c50 : ((((rd_T71 l0_2 x24_2).f3).toList == ([] : List UInt8)) != (((rd_T71 l0_2 x24_2).f2) == 0)) = true
              ·
               rw [if_pos c50] at H
               have c50b0 : ((((rd_T71 l0_2 x24_2).f3).toList == ([] : List UInt8)) != (((rd_T71 l0_2 x24_2).f2) == 0)) = true := c50
               try have c50b9 : (((rd_T71 l0_2 x24_2).f3).toList.isEmpty == (((rd_T71 l0_2 x24_2).f2) == 0)) = false := by have hem_ : ∀ l : List UInt8, l.isEmpty = (l == []) := (fun l => by cases l <;> rfl); simp only [hem_]; have h_ : (!((((rd_T71 l0_2 x24_2).f3).toList == ([] : List UInt8)) == (((rd_T71 l0_2 x24_2).f2) == 0))) = true := c50b0; generalize ((((rd_T71 l0_2 x24_2).f3).toList == ([] : List UInt8)) == (((rd_T71 l0_2 x24_2).f2) == 0)) = q_ at h_ ⊢; cases q_ <;> first | rfl | cases h_
               (try (have c50b1 : decide ((((rd_T71 l0_2 x24_2).f3).toList == ([] : List UInt8)) = (((rd_T71 l0_2 x24_2).f2) == 0)) = false := by simpa using c50))
               (try (have c50b2 : ((((rd_T71 l0_2 x24_2).f3).toList == ([] : List UInt8)) == (((rd_T71 l0_2 x24_2).f2) == 0)) = false := by simpa using c50))
               (try (have c50b3 : ¬ ((((rd_T71 l0_2 x24_2).f3).toList == ([] : List UInt8)) = (((rd_T71 l0_2 x24_2).f2) == 0)) := by simpa using c50))
               clear c50
               obtain rfl := Option.some.inj H
               have hnb51 := NB268_264.out
               have hnc51 := NB264_268.out
               have hcz52_0 := bcq_9 BK268.out 0
               have hcz52_1 := bcq_9 BK268.out 1
               have hcz52_2 := bcq_9 BK268.out 2
               have hcz52_3 := bcq_9 BK268.out 3
               have hfz52_0 := blk_frozen BK268.out 0
               have hfz52_1 := blk_frozen BK268.out 1
               have hfz52_2 := blk_frozen BK268.out 2
               have hfz52_3 := blk_frozen BK268.out 3
               go_wp2_with (first | ((with_reducible refine gate_callee (f := 51) rfl ?_); refine goesL_ (some 60) rfl rfl Tryd.func51 (by kernel_rfl) rfl #[.int .i64 ((rd_T71 l0_2 x24_2).f2), .int .i64 0, .int .i64 3] rfl zb1_9 ?_; (with_reducible refine (impl_in.calls ((rd_T71 l0_2 x24_2).f2) 0 3 true _ A45.out).mono ?_); rintro e w' ⟨rfl, ⟨nd, rfl⟩⟩; refine ⟨_, rfl, ?_⟩))
               go_ret
               exact ⟨by first | rfl | (simp [errW_none, errW_some] <;> rfl) | (simp [*, errW_none, errW_some] <;> rfl), by repeat (first | (with_reducible first | exact HB.out | apply below_alloc | apply pw_below_drewN | apply below_drew1 | refine below_set ?_ GE264.out | refine below_set ?_ GE268.out) | exact HB.out)⟩
              ·
               rw [if_neg c50] at H
               have c50b0 : ((((rd_T71 l0_2 x24_2).f3).toList == ([] : List UInt8)) != (((rd_T71 l0_2 x24_2).f2) == 0)) = false := by simpa using c50
               try have c50b9 : (((rd_T71 l0_2 x24_2).f3).toList.isEmpty == (((rd_T71 l0_2 x24_2).f2) == 0)) = true := by have hem_ : ∀ l : List UInt8, l.isEmpty = (l == []) := (fun l => by cases l <;> rfl); simp only [hem_]; have h_ : (!((((rd_T71 l0_2 x24_2).f3).toList == ([] : List UInt8)) == (((rd_T71 l0_2 x24_2).f2) == 0))) = false := c50b0; generalize ((((rd_T71 l0_2 x24_2).f3).toList == ([] : List UInt8)) == (((rd_T71 l0_2 x24_2).f2) == 0)) = q_ at h_ ⊢; cases q_ <;> first | rfl | cases h_
               (try (have c50b1 : decide ((((rd_T71 l0_2 x24_2).f3).toList == ([] : List UInt8)) = (((rd_T71 l0_2 x24_2).f2) == 0)) = true := by simpa using c50))
               (try (have c50b2 : ((((rd_T71 l0_2 x24_2).f3).toList == ([] : List UInt8)) == (((rd_T71 l0_2 x24_2).f2) == 0)) = true := by simpa using c50))
               clear c50
               have H' := Aside0.mk H
               clear H
               have hnb53 := NB268_264.out
               have hnc53 := NB264_268.out
               have hcz54_0 := bcq_9 BK268.out 0
               have hcz54_1 := bcq_9 BK268.out 1
               have hcz54_2 := bcq_9 BK268.out 2
               have hcz54_3 := bcq_9 BK268.out 3
               have hfz54_0 := blk_frozen BK268.out 0
               have hfz54_1 := blk_frozen BK268.out 1
               have hfz54_2 := blk_frozen BK268.out 2
               have hfz54_3 := blk_frozen BK268.out 3
               go_wp2_with (first | ((with_reducible refine gate_callee (f := 51) rfl ?_); refine goesL_ (some 60) rfl rfl Tryd.func51 (by kernel_rfl) rfl #[.int .i64 ((rd_T71 l0_2 x24_2).f2), .int .i64 0, .int .i64 3] rfl zb1_9 ?_; (with_reducible refine (impl_in.calls ((rd_T71 l0_2 x24_2).f2) 0 3 true _ A45.out).mono ?_); rintro e w' ⟨rfl, ⟨nd, rfl⟩⟩; refine ⟨_, rfl, ?_⟩))
               go_roundg kj20
               case measure => have := HJ1.out; have := HK2.out; have := HJ20.out; omega
               case rel => exact ⟨(wrap64 (x24_2 + 1)), zb5_9, H', ⟨by have := HJ1.out; have := HK2.out; have := HJ20.out; omega⟩, ⟨by (with_reducible repeat (first | refine blk_drewN ?_ _ | refine blk_drew ?_ | refine blk_alloc ?_ _)); exact BK264.out⟩, ⟨by repeat (first | (with_reducible first | exact HB.out | apply below_alloc | apply pw_below_drewN | apply below_drew1 | refine below_set ?_ GE264.out | refine below_set ?_ GE268.out) | exact HB.out)⟩⟩
            ·
             replace c46 := Bool.eq_false_iff.mpr c46
             subst c46
             have H1 : (some false) = some r := by rw [if_neg (show ¬ (false = true) by decide)] at H; exact H
             clear H
             have H := H1
             clear H1
             obtain rfl := Option.some.inj H
             have hnb55 := NB268_264.out
             have hnc55 := NB264_268.out
             have hcz56_0 := bcq_9 BK268.out 0
             have hcz56_1 := bcq_9 BK268.out 1
             have hcz56_2 := bcq_9 BK268.out 2
             have hcz56_3 := bcq_9 BK268.out 3
             have hfz56_0 := blk_frozen BK268.out 0
             have hfz56_1 := blk_frozen BK268.out 1
             have hfz56_2 := blk_frozen BK268.out 2
             have hfz56_3 := blk_frozen BK268.out 3
             go_wp2_with (first | ((with_reducible refine gate_callee (f := 51) rfl ?_); refine goesL_ (some 60) rfl rfl Tryd.func51 (by kernel_rfl) rfl #[.int .i64 ((rd_T71 l0_2 x24_2).f2), .int .i64 0, .int .i64 3] rfl zb1_9 ?_; (with_reducible refine (impl_in.calls ((rd_T71 l0_2 x24_2).f2) 0 3 false _ A45.out).mono ?_); rintro e w' ⟨rfl, ⟨nd, rfl⟩⟩; refine ⟨_, rfl, ?_⟩))
             go_ret
             exact ⟨by first | rfl | (simp [errW_none, errW_some] <;> rfl) | (simp [*, errW_none, errW_some] <;> rfl), by repeat (first | (with_reducible first | exact HB.out | apply below_alloc | apply pw_below_drewN | apply below_drew1 | refine below_set ?_ GE264.out | refine below_set ?_ GE268.out) | exact HB.out)⟩
        ·
         rw [if_neg c20] at H
         exact absurd H (by simp)
       ·
        rw [if_neg c19] at H
        exact absurd H (by simp)
      ·
       rw [if_neg c18] at H
       have c18b0 : decide (x24_2 < (l0_2.length : Int)) = false := decide_eq_false c18
       clear c18
       obtain rfl := Option.some.inj H
       go_wp2
       go_ret
       exact ⟨by first | rfl | (simp [errW_none, errW_some] <;> rfl) | (simp [*, errW_none, errW_some] <;> rfl), by repeat (first | (with_reducible first | exact HB.out | apply below_alloc | apply pw_below_drewN | apply below_drew1 | refine below_set ?_ GE264.out) | exact HB.out)⟩

end Go.Proofs.YtjchggdekbnmnaaDoor.QFnExactDbResult
