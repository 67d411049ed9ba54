-- laid by this session's own runner (wip/print2.py): not a printed file
import Derived.Laws.Cover1
import Derived.Test.YtgfmapilimlamaaQFnExactRosterFollowx0
import Derived.Test.YtgfmapilimlamaaQFnExactRosterFollowx1
namespace Go.Proofs.Ytgfmapilimlamaa.QFnExactRosterFollow
open Go.RowKit Go.Proofs.YtgfmapilimlamaaW.PrintWords Go.Proofs.YtgfmapilimlamaaW.PrintLast Go.Proofs.YtgfmapilimlamaaW.PrintMore
attribute [local go_sem] max2_int min2_int max_two min_two max_three min_three max_four min_four   -- for this text's walks alone
set_option linter.unusedVariables false
set_option linter.unusedSimpArgs false

theorem zp_2 {P : Program} {md : Region.Mode} {ops : Array Oper} {Q : Exit → Act → World → Prop} {S : World → Prop} {ds : List Nat} {T : Bool × List (List Nat × List Nat)} {fuel : Nat} {l : Array Bool} {a : Act} {w : World} {oi : Oper} {v : Value} {a' : Act} (i : Nat) (N : Option Tmp) (l' : Array Bool) (hT : Aside0 (rtab md ops = T))
    (h : wpAnyLast P md ops Q S ds fuel l' a' w) (hc : anyT T l.toList l'.toList i = true := by kernel_rfl) (hi : ops[i]? = some oi := by rfl) (hN : oi.dst = N := by rfl) (hQ : ∀ c a w, Q (.panic c) (a.put oi.dst v) w → Q (.panic c) a w := by exact fun _ _ _ h => h)
    (hy : Yields P ops oi v a := by (refine Or.inl ⟨by rfl, ?_⟩; intro w'; go_simp; with_reducible rfl)) (ha : a.put N v = a' := by (simp only [Act.put, List.setIfInBounds_toArray, List.set_cons_zero, List.set_cons_succ, i64_w, i32_w]; rfl)) : wpAnyLast P md ops Q S ds (fuel + 1) l a w :=
  pure_ l' hi hN (any_of hT.out hc) hQ hy ha h
theorem zu_2 {P : Program} {md : Region.Mode} {ops : Array Oper} {Q : Exit → Act → World → Prop} {S : World → Prop} {ds : List Nat} {T : Bool × List (List Nat × List Nat)} {fuel : Nat} {l : Array Bool} {a : Act} {w : World} {oi : Oper} {a' : Act} (i : Nat) (N : Option Tmp) (l' : Array Bool) (hT : Aside0 (rtab md ops = T))
    (h : wpAnyLast P md ops Q S ds fuel l' a' w) (hc : anyT T l.toList l'.toList i = true := by kernel_rfl) (hi : ops[i]? = some oi := by rfl) (hN : oi.dst = N := by rfl) (hQ : ∀ c a w, Q (.panic c) (a.put oi.dst undef) w → Q (.panic c) a w := by exact fun _ _ _ h => h)
    (hy : Yields P ops oi undef a := by exact Or.inr ⟨by rfl, rfl⟩) (ha : a.put N undef = a' := by (simp only [Act.put, List.setIfInBounds_toArray, List.set_cons_zero, List.set_cons_succ, i64_w, i32_w]; rfl)) : wpAnyLast P md ops Q S ds (fuel + 1) l a w :=
  pure_ l' hi hN (any_of hT.out hc) hQ hy ha h
abbrev zm0_2 : Array Bool := #[false, false, false, false, false, false, false, false, false, false, false, false, false, false, false, false, false, false, false, false, false, false, false]
abbrev zm1_2 : Array Bool := #[true, false, false, false, false, false, false, false, false, false, false, false, false, false, false, false, false, false, false, false, false, false, false]
abbrev zm2_2 : Array Bool := #[true, true, false, false, false, false, false, false, false, false, false, false, false, false, false, false, false, false, false, false, false, false, false]
abbrev zm3_2 : Array Bool := #[true, true, true, false, false, false, false, false, false, false, false, false, false, false, false, false, false, false, false, false, false, false, false]
abbrev zm4_2 : Array Bool := #[true, true, true, true, false, false, false, false, false, false, false, false, false, false, false, false, false, false, false, false, false, false, false]
abbrev zm5_2 : Array Bool := #[true, true, true, true, true, false, false, false, false, false, false, false, false, false, false, false, false, false, false, false, false, false, false]
abbrev zm6_2 : Array Bool := #[true, true, true, true, true, true, false, false, false, false, false, false, false, false, false, false, false, false, false, false, false, false, false]
abbrev zm7_2 : Array Bool := #[true, true, true, true, true, true, true, false, false, false, false, false, false, false, false, false, false, false, false, false, false, false, false]
abbrev zm8_2 : Array Bool := #[true, true, true, true, true, true, true, true, false, false, false, false, false, false, false, false, false, false, false, false, false, false, false]
abbrev zm9_2 : Array Bool := #[true, true, true, true, true, true, true, true, true, false, false, false, false, false, false, false, false, false, false, false, false, false, false]
abbrev zm10_2 : Array Bool := #[true, true, true, true, true, true, true, true, true, true, false, false, false, false, false, false, false, false, false, false, false, false, false]
abbrev zm11_2 : Array Bool := #[true, true, true, true, true, true, true, true, true, true, true, false, false, false, false, false, false, false, false, false, false, false, false]
abbrev zm12_2 : Array Bool := #[true, true, true, true, true, true, true, true, true, true, true, true, false, false, false, false, false, false, false, false, false, false, false]
abbrev zm13_2 : Array Bool := #[true, true, true, true, true, true, true, true, true, true, true, true, true, false, false, false, false, false, false, false, false, false, false]
abbrev zm14_2 : Array Bool := #[true, true, true, true, true, true, true, true, true, true, true, true, true, true, false, false, false, false, false, false, false, false, false]
abbrev zm15_2 : Array Bool := #[true, true, true, true, true, true, true, true, true, true, true, true, true, true, true, false, false, false, false, false, false, false, false]
abbrev zm16_2 : Array Bool := #[true, true, true, true, true, true, true, true, true, true, true, true, true, true, true, true, false, false, false, false, false, false, false]
abbrev zm17_2 : Array Bool := #[true, true, true, true, true, true, true, true, true, true, true, true, true, true, true, true, true, false, false, false, false, false, false]
abbrev zm18_2 : Array Bool := #[true, true, true, true, true, true, true, true, true, true, true, true, true, true, true, true, true, true, false, false, false, false, false]
abbrev zm19_2 : Array Bool := #[true, true, true, true, true, true, true, true, true, true, true, true, true, true, true, true, true, true, true, false, false, false, false]
abbrev zm20_2 : Array Bool := #[true, true, true, true, true, true, true, true, true, true, true, true, true, true, true, true, true, true, true, true, false, false, false]
abbrev zm21_2 : Array Bool := #[true, true, true, true, true, true, true, true, true, true, true, true, true, true, true, true, true, true, true, true, true, false, false]
abbrev zm22_2 : Array Bool := #[true, true, true, true, true, true, true, true, true, true, true, true, true, true, true, true, true, true, true, true, true, true, false]
abbrev zm23_2 : Array Bool := #[true, true, true, true, true, true, true, true, true, true, true, true, true, true, true, true, true, true, true, true, true, true, true]
abbrev zm24_2 : Array Bool := #[true, true, true, true, true, true, true, true, true, true, true, true, true, true, false, true, false, false, false, false, false, false, false]
abbrev zm25_2 : Array Bool := #[true, true, true, true, true, true, true, true, true, true, true, true, true, true, false, true, true, false, false, false, false, false, false]
abbrev zm26_2 : Array Bool := #[true, true, true, true, true, true, true, true, true, true, true, true, true, true, false, true, true, true, false, false, false, false, false]
abbrev zm27_2 : Array Bool := #[true, true, true, true, true, true, true, true, true, true, true, true, true, true, false, true, true, true, true, false, false, false, false]
abbrev zm28_2 : Array Bool := #[false, false, false, false, false, false, false, false, false, false, false]
abbrev zm29_2 : Array Bool := #[false, true, false, false, false, false, false, false, false, false, false]
abbrev zm30_2 : Array Bool := #[false, true, true, false, false, false, false, false, false, false, false]
abbrev zm31_2 : Array Bool := #[false, true, true, true, false, false, false, false, false, false, false]
abbrev zm32_2 : Array Bool := #[false, true, true, true, false, true, false, false, false, false, false]
abbrev zm33_2 : Array Bool := #[false, true, true, true, false, true, true, false, false, false, false]
abbrev zm34_2 : Array Bool := #[false, true, true, true, false, true, true, true, false, false, false]
abbrev zm35_2 : Array Bool := #[false, true, true, true, false, true, true, true, true, false, false]
abbrev zm36_2 : Array Bool := #[true, true, true, true, false, true, true, true, true, false, false]
abbrev zm37_2 : Array Bool := #[true, true, true, true, true, true, true, true, true, false, false]
abbrev zm38_2 : Array Bool := #[true, true, true, true, true, true, true, true, true, true, false]
abbrev zm39_2 : Array Bool := #[true, true, true, true, true, true, true, true, true, true, true]
theorem zb0_2 {P : Prop} (h : P := by repeat (first | (with_reducible first | exact HB.out | apply below_alloc | apply pw_below_drewN | apply below_drew1) | exact HB.out)) : P := h
theorem zb1_2 {P : Prop} (h : P := by first | rfl | (simp; done) | (simp [*]; done)) : P := h
theorem zb2_2 {P : Prop} (h : P := by first | (with_reducible assumption) | assumption) : P := h
theorem zb3_2 {P : Prop} (h : P := by (with_reducible repeat (first | apply Kd.R_alloc | apply Kd.R_drewN | apply Kd.R_drew)); exact HO_5.out) : P := h
theorem zb4_2 {P : Prop} (h : P := by (try simp only [List.map_toArray, List.map_cons, List.map_nil]); first | done | rfl | (simp only [List.length_drop, List.length_take]; rfl)) : P := h
/-! ### spec_RosterFollow: function 5 -/
mutual
def spec_RosterFollow.j0 : Nat → List (S33) → List (S33) → List (S33) → Bool → Option ((List (S33)))
 | 0, _, _, _, _ => none
 | k + 1, x0, x1, x5, x17 => if x17 = true then (some x5) else (spec_RosterFollow.l0 k x0 x1 x5 0)
def spec_RosterFollow.l0 : Nat → List (S33) → List (S33) → List (S33) → Int → Option ((List (S33)))
 | 0, _, _, _, _ => none
 | k + 1, x0, x1, x5, x6 => if x6 < (x0.length : Int) then (if 0 ≤ x6 then (if (rd_T33 x0 x6).f4 = true then (some x5) else (if x6 > 0 then (if 0 ≤ (wrap64 (x6 - 1)) then (if (wrap64 (x6 - 1)) < (x0.length : Int) then (if ((Op.bytesLess (((rd_T33 x0 (wrap64 (x6 - 1))).f0).toList) (((rd_T33 x0 x6).f0).toList)) = true) then (spec_RosterFollow.l0 k x0 x1 x5 (wrap64 (x6 + 1))) else (some x5)) else (none)) else (none)) else (spec_RosterFollow.l0 k x0 x1 x5 (wrap64 (x6 + 1))))) else (none)) else (if x5.length + x0.length < 2199023255552 then (spec_RosterFollow.l1 k x1 (x5 ++ x0) 0) else (none))
def spec_RosterFollow.l1 : Nat → List (S33) → List (S33) → Int → Option ((List (S33)))
 | 0, _, _, _ => none
 | k + 1, x1, x5, x7 => if x7 < (x1.length : Int) then (if 0 ≤ x7 then (if ((rd_T33 x1 x7).f4 = true) then ((spec_l07At.f k x5 ((rd_T33 x1 x7).f0)).bind fun t166 => (if t166 ≥ 0 then ((some (([] : List (S33)) : List (S33))).bind fun y167 => (if 0 ≤ t166 then (if t166 ≤ (x5.length : Int) then ((some (x5.take (t166 : Int).toNat : List (S33))).bind fun y170 => (if y167.length + y170.length < 2199023255552 then ((some (y167 ++ y170 : List (S33))).bind fun y174 => (if 0 ≤ (wrap64 (t166 + 1)) then (if (wrap64 (t166 + 1)) ≤ (x5.length : Int) then ((some (x5.drop ((wrap64 (t166 + 1)) : Int).toNat : List (S33))).bind fun y177 => (if y174.length + y177.length < 2199023255552 then (spec_RosterFollow.l1 k x1 (y174 ++ y177) (wrap64 (x7 + 1))) else (none))) else (none)) else (none))) else (none))) else (none)) else (none))) else (spec_RosterFollow.l1 k x1 x5 (wrap64 (x7 + 1))))) else ((spec_l07Put.f k x5 ((rd_T33 x1 x7).f0) ((rd_T33 x1 x7).f1) ((rd_T33 x1 x7).f2) ((rd_T33 x1 x7).f3) ((rd_T33 x1 x7).f4)).bind fun t185 => (spec_RosterFollow.l1 k x1 t185 (wrap64 (x7 + 1))))) else (none)) else (some x5)
end
def spec_RosterFollow.f (k : Nat) (l0 : List (S33)) (l1 : List (S33)) : Option ((List (S33))) := (some (([] : List (S33)) : List (S33))).bind fun y155 => (if (l0.length : Int) > 400 then (spec_RosterFollow.j0 k l0 l1 y155 true) else (spec_RosterFollow.j0 k l0 l1 y155 (decide ((l1.length : Int) > 400))))
theorem spec_RosterFollow.mono_l : ∀ k, (∀ y0 y1 y2 y3, LeO (spec_RosterFollow.j0 k y0 y1 y2 y3) (spec_RosterFollow.j0 (k + 1) y0 y1 y2 y3)) ∧ (∀ y0 y1 y2 y3, LeO (spec_RosterFollow.l0 k y0 y1 y2 y3) (spec_RosterFollow.l0 (k + 1) y0 y1 y2 y3)) ∧ (∀ y0 y1 y2, LeO (spec_RosterFollow.l1 k y0 y1 y2) (spec_RosterFollow.l1 (k + 1) y0 y1 y2))
 | 0 => ⟨fun _ _ _ _ r h => by simp [spec_RosterFollow.j0] at h, fun _ _ _ _ r h => by simp [spec_RosterFollow.l0] at h, fun _ _ _ r h => by simp [spec_RosterFollow.l1] at h⟩
 | k + 1 => by
  obtain ⟨ih0, ih1, ih2⟩ := spec_RosterFollow.mono_l k
  refine ⟨?_, ?_, ?_⟩
  ·
   intro y0 y1 y2 y3
   unfold spec_RosterFollow.j0
   repeat' first
   | (with_reducible exact ih0 _ _ _ _)
   | (with_reducible exact ih1 _ _ _ _)
   | (with_reducible exact ih2 _ _ _)
   | (with_reducible exact spec_l07At.mono _ _ _)
   | (with_reducible exact spec_l07Put.mono _ _ _ _ _ _ _)
   | (with_reducible exact LeO.refl _)
   | (with_reducible exact LeO.none _)
   | (with_reducible refine LeO.ite ?_ ?_)
   | (with_reducible refine LeO.bind ?_ (fun _ => ?_))
   | exact ih0 _ _ _ _
   | exact ih1 _ _ _ _
   | exact ih2 _ _ _
   | exact spec_l07At.mono _ _ _
   | exact spec_l07Put.mono _ _ _ _ _ _ _
   | exact LeO.none _
   | refine LeO.ite ?_ ?_
   | refine LeO.bind ?_ (fun _ => ?_)
  ·
   intro y0 y1 y2 y3
   unfold spec_RosterFollow.l0
   repeat' first
   | (with_reducible exact ih0 _ _ _ _)
   | (with_reducible exact ih1 _ _ _ _)
   | (with_reducible exact ih2 _ _ _)
   | (with_reducible exact spec_l07At.mono _ _ _)
   | (with_reducible exact spec_l07Put.mono _ _ _ _ _ _ _)
   | (with_reducible exact LeO.refl _)
   | (with_reducible exact LeO.none _)
   | (with_reducible refine LeO.ite ?_ ?_)
   | (with_reducible refine LeO.bind ?_ (fun _ => ?_))
   | exact ih0 _ _ _ _
   | exact ih1 _ _ _ _
   | exact ih2 _ _ _
   | exact spec_l07At.mono _ _ _
   | exact spec_l07Put.mono _ _ _ _ _ _ _
   | exact LeO.none _
   | refine LeO.ite ?_ ?_
   | refine LeO.bind ?_ (fun _ => ?_)
  ·
   intro y0 y1 y2
   unfold spec_RosterFollow.l1
   repeat' first
   | (with_reducible exact ih0 _ _ _ _)
   | (with_reducible exact ih1 _ _ _ _)
   | (with_reducible exact ih2 _ _ _)
   | (with_reducible exact spec_l07At.mono _ _ _)
   | (with_reducible exact spec_l07Put.mono _ _ _ _ _ _ _)
   | (with_reducible exact LeO.refl _)
   | (with_reducible exact LeO.none _)
   | (with_reducible refine LeO.ite ?_ ?_)
   | (with_reducible refine LeO.bind ?_ (fun _ => ?_))
   | exact ih0 _ _ _ _
   | exact ih1 _ _ _ _
   | exact ih2 _ _ _
   | exact spec_l07At.mono _ _ _
   | exact spec_l07Put.mono _ _ _ _ _ _ _
   | exact LeO.none _
   | refine LeO.ite ?_ ?_
   | refine LeO.bind ?_ (fun _ => ?_)
theorem spec_RosterFollow.mono : ∀ a0 a1 k, LeO (spec_RosterFollow.f k a0 a1) (spec_RosterFollow.f (k + 1) a0 a1) := by
 intro a0 a1 k
 obtain ⟨ih0, ih1, ih2⟩ := spec_RosterFollow.mono_l k
 unfold spec_RosterFollow.f
 repeat' first
   | (with_reducible exact ih0 _ _ _ _)
   | (with_reducible exact ih1 _ _ _ _)
   | (with_reducible exact ih2 _ _ _)
   | (with_reducible exact spec_l07At.mono _ _ _)
   | (with_reducible exact spec_l07Put.mono _ _ _ _ _ _ _)
   | (with_reducible exact LeO.refl _)
   | (with_reducible exact LeO.none _)
   | (with_reducible refine LeO.ite ?_ ?_)
   | (with_reducible refine LeO.bind ?_ (fun _ => ?_))
   | exact ih0 _ _ _ _
   | exact ih1 _ _ _ _
   | exact ih2 _ _ _
   | exact spec_l07At.mono _ _ _
   | exact spec_l07Put.mono _ _ _ _ _ _ _
   | exact LeO.none _
   | refine LeO.ite ?_ ?_
   | refine LeO.bind ?_ (fun _ => ?_)
def spec_RosterFollow.T7 : Bool × List (List Nat × List Nat) := (true, [([], []), ([], []), ([0, 1], [0, 1]), ([2], [2]), ([3], [3]), ([4], [4]), ([5], [5]), ([6, 5], [5, 6]), ([7, 5, 5], [5, 7]), ([8], [8]), ([8], [8]), ([10, 8], [8, 10]), ([9, 11, 8], [8, 9, 11]), ([12, 8], [8, 12]), ([13, 8], [8, 13]), ([8], [8]), ([8], [8]), ([15, 16, 8], [8, 15, 16]), ([17, 8], [8, 17]), ([18, 8], [8, 18]), ([14, 19, 8], [8, 14, 19]), ([8, 20, 5], [5, 8, 20]), ([5, 21], [5, 21])])
def spec_RosterFollow.B7 : List Nat := [0, 0, 3, 7, 15, 31, 63, 127, 255, 511, 511, 1535, 4095, 8191, 16383, 511, 511, 98815, 229887, 492031, 1048575, 2097151, 4194303]
theorem spec_RosterFollow.tab7 : rtab .any (opsOf Try.f5 7) = spec_RosterFollow.T7 := by kernel_rfl
theorem spec_RosterFollow.bits7 : waitsOk spec_RosterFollow.T7.2 spec_RosterFollow.B7 = true := by kernel_rfl
def spec_RosterFollow.T17 : Bool × List (List Nat × List Nat) := (true, [([], []), ([], []), ([], []), ([1, 2], [1, 2]), ([0, 3], [0, 3]), ([], []), ([], []), ([6], [6]), ([5, 7], [5, 7]), ([4, 8, 4], [4, 8]), ([9, 9, 0, 1, 2, 3, 4, 5, 6, 7, 8, 9], [1, 5, 9])])
def spec_RosterFollow.B17 : List Nat := [0, 0, 0, 6, 15, 0, 0, 64, 224, 511, 1023]
theorem spec_RosterFollow.tab17 : rtab .any (opsOf Try.f5 17) = spec_RosterFollow.T17 := by kernel_rfl
theorem spec_RosterFollow.bits17 : waitsOk spec_RosterFollow.T17.2 spec_RosterFollow.B17 = true := by kernel_rfl
set_option maxHeartbeats 8000000 in
set_option maxRecDepth 100000 in
theorem spec_RosterFollow.calls (k : Nat) (A0 : Option Addr) (c0 : Nat) (l0 : List (S33)) (A1 : Option Addr) (c1 : Nat) (l1 : List (S33)) (r : List (S33)) (w : World) (hr0 : Kd.C k33 w A0 l0.length l0) (hc0 : l0.length ≤ c0) (hr1 : Kd.C k33 w A1 l1.length l1) (hc1 : l1.length ≤ c1) (h : spec_RosterFollow.f k l0 l1 = some r) :
  Calls Try.prog 5 #[.slice A0 l0.length c0, .slice A1 l1.length c1] w fun e w' => ∃ v0_ : Value, e = .returned (v0_) ∧ Kd.R k33 33 w' w.heap.size (fun _ => True) v0_ r ∧ Below w.heap.size w w' := by
 have hu33 := Try.underlying33
 have HR0 := Aside0.mk hr0
 have HC0 := Aside0.mk hc0
 clear hr0 hc0
 have HR1 := Aside0.mk hr1
 have HC1 := Aside0.mk hc1
 clear hr1 hc1
 have HB := Aside0.mk (Below.refl w.heap.size w)
 have H : ((some (([] : List (S33)) : List (S33))).bind fun y155 => (if (l0.length : Int) > 400 then (spec_RosterFollow.j0 k l0 l1 y155 true) else (spec_RosterFollow.j0 k l0 l1 y155 (decide ((l1.length : Int) > 400))))) = some r := h
 clear h
 obtain ⟨y155, hy155⟩ : ∃ y_ : List (S33), y_ = (([] : List (S33))) := ⟨_, rfl⟩
 replace H : (if (l0.length : Int) > 400 then (spec_RosterFollow.j0 k l0 l1 y155 true) else (spec_RosterFollow.j0 k l0 l1 y155 (decide ((l1.length : Int) > 400)))) = some r := by first | (rw [hy155]; with_reducible exact H) | (have H2_ := (Option.bind_some _ _).symm.trans H; rw [hy155]; with_reducible exact H2_) | (have H2_ := (Option.bind_some _ _).symm.trans H; with_reducible exact H2_) | with_reducible exact H | (rw [hy155]; exact H) | exact H
 have Ny155 := Aside0.mk hy155
 clear hy155
 have HC3 := Aside0.mk H
 clear H
 go_enter Try.func5, Try.ntmps5
 go_upto_region 2 with (first | ((with_reducible refine gate_dst (N := 9) rfl ?_); (try (refine gate_guard (by rfl) ?_; dsimp only)); refine Kd.R_lit k33 _ 33 ?hg (N := 9) ?hd (xs := ([] : List (S33))) (inner := []) (ok := fun _ => True) (okp := fun _ => True) ?hr ?hp (fun _ hk => hk) trivial (Below.refl _ _) (Nat.le_refl _) (by simp) ?_; (case hd => rfl); (case hg => rfl); (case hr => first | (go_simp; done) | (go_simp; rfl)); (case hp => exact (Reps.none _ _)); intro v156 w4 ho5 hb hg_ hnew_; clear hg_ hnew_; (first | rw [← Ny155.out] at ho5 | (simp only [Int.reduceToNat] at ho5; rw [← Ny155.out] at ho5)); have n0_ := Aside0.mk (Kd.R_lower ho5 (below_size zb0_2)); have n1_ := Aside0.mk (below_step zb0_2 hb); clear HB; have HO157 := n0_; have HB := n1_; clear n0_ n1_; clear hb ho5))
 (try simp only [Act.put, List.setIfInBounds_toArray, List.set_cons_zero, List.set_cons_succ])
 go_cut [17] (fun v17 wc => ∃ (kq : Nat) (x17_2 : Bool), v17 = .bool x17_2 ∧ Aside0 (spec_RosterFollow.j0 kq l0 l1 y155 x17_2 = some r) ∧ Aside0 (kq ≤ k) ∧ Aside0 (Kd.R k33 33 wc w.heap.size (fun _ => True) v156 y155) ∧ Aside0 (Below w.heap.size w wc))
 case first =>
  have H := HC3.out
  clear HC3
  by_cases c6 : (l0.length : Int) > 400
  ·
   rw [if_pos c6] at H
   have c6b0 : decide (400 < (l0.length : Int)) = true := decide_eq_true c6
   have c6b1 : decide (400 < l0.length) = true := decide_eq_true (by omega)
   clear c6
   (first | rw [c6b0] | (simp only [i64_w, i32_w]; rw [c6b0]) | skip)
   have H' := Aside0.mk H
   clear H
   go_wp2
   go_meet
   case rel => exact ⟨_, (true), zb1_2, H', ⟨by first | omega | exact Nat.le_refl _⟩, ⟨by (with_reducible repeat (first | apply Kd.R_alloc | apply Kd.R_drewN | apply Kd.R_drew)); exact HO157.out⟩, ⟨by repeat (first | (with_reducible first | exact HB.out | apply below_alloc | apply pw_below_drewN | apply below_drew1) | exact HB.out)⟩⟩
  ·
   rw [if_neg c6] at H
   have c6b0 : decide (400 < (l0.length : Int)) = false := decide_eq_false c6
   have c6b1 : decide (400 < l0.length) = false := decide_eq_false (by omega)
   clear c6
   (first | rw [c6b0] | (simp only [i64_w, i32_w]; rw [c6b0]) | skip)
   have H' := Aside0.mk H
   clear H
   go_wp2
   go_meet
   case rel => exact ⟨_, (decide ((l1.length : Int) > 400)), zb1_2, H', ⟨by first | omega | exact Nat.le_refl _⟩, ⟨by (with_reducible repeat (first | apply Kd.R_alloc | apply Kd.R_drewN | apply Kd.R_drew)); exact HO157.out⟩, ⟨by repeat (first | (with_reducible first | exact HB.out | apply below_alloc | apply pw_below_drewN | apply below_drew1) | exact HB.out)⟩⟩
 case rest =>
  clear HC3
  try clear c1
  try clear p2
  try clear c5
  try clear c6
  try clear c6b0
  try clear c6b1
  obtain ⟨kq, x17_2, rfl, HA, HJ2, HO_5, HB⟩ := hcut
  cases kq with
  | zero => exact absurd HA.out (by simp [spec_RosterFollow.j0])
  | succ kj2 =>
   have H := HA.out
   clear HA
   simp only [spec_RosterFollow.j0] at H
   by_cases c7 : x17_2 = true
   ·
    subst c7
    have H1 : (some y155) = some r := by rw [if_pos rfl] at H; exact H
    clear H
    have H := H1
    clear H1
    obtain rfl := Option.some.inj H
    go_wp2
    go_ret
    exact ⟨_, by first | rfl | (simp [errW_none, errW_some] <;> rfl) | (simp [*, errW_none, errW_some] <;> rfl), by (with_reducible repeat (first | apply Kd.R_alloc | apply Kd.R_drewN | apply Kd.R_drew)); exact HO_5.out, by repeat (first | (with_reducible first | exact HB.out | apply below_alloc | apply pw_below_drewN | apply below_drew1) | exact HB.out)⟩
   ·
    replace c7 := Bool.eq_false_iff.mpr c7
    subst c7
    have H1 : (spec_RosterFollow.l0 kj2 l0 l1 y155 0) = some r := by rw [if_neg (show ¬ (false = true) by decide)] at H; exact H
    clear H
    have H := H1
    clear H1
    have H' := Aside0.mk H
    clear H
    go_wp2
    go_loopg [6] kj2 (fun kq v6 w' => ∃ (x6_2 : Int), v6 = .int .i64 x6_2 ∧ Aside0 (spec_RosterFollow.l0 kq l0 l1 y155 x6_2 = some r) ∧ Aside0 (kq ≤ kj2) ∧ Aside0 (Kd.R k33 33 w' w.heap.size (fun _ => True) v156 y155) ∧ Aside0 (Below w.heap.size w w'))
    case atStart => exact ⟨(0), zb1_2, H', ⟨Nat.le_refl _⟩, ⟨by (with_reducible repeat (first | apply Kd.R_alloc | apply Kd.R_drewN | apply Kd.R_drew)); exact HO_5.out⟩, ⟨by repeat (first | (with_reducible first | exact HB.out | apply below_alloc | apply pw_below_drewN | apply below_drew1) | exact HB.out)⟩⟩
    case round =>
     clear H'
     try clear c1
     try clear p2
     try clear c5
     try clear c6
     try clear c6b0
     try clear c6b1
     try clear c7
     try clear p2
     obtain ⟨x6_2, rfl, HA, HK2, HO_5, HB⟩ := hrel
     cases gk with
     | zero => exact absurd HA.out (by simp [spec_RosterFollow.l0])
     | succ k2 =>
      have H := HA.out
      clear HA
      simp only [spec_RosterFollow.l0] at H
      by_cases c8 : x6_2 < (l0.length : Int)
      ·
       rw [if_pos c8] at H
       have c8b0 : decide (x6_2 < (l0.length : Int)) = true := decide_eq_true c8
       clear c8
       by_cases c9 : 0 ≤ x6_2
       ·
        rw [if_pos c9] at H
        have c9b0 : decide (0 ≤ x6_2) = true := decide_eq_true c9
        clear c9
        obtain ⟨bq10, hbq10⟩ : ∃ b_ : Bool, b_ = ((rd_T33 l0 x6_2).f4) := ⟨_, rfl⟩
        replace H : (if bq10 = true then (some y155) else (if x6_2 > 0 then (if 0 ≤ (wrap64 (x6_2 - 1)) then (if (wrap64 (x6_2 - 1)) < (l0.length : Int) then (if ((Op.bytesLess (((rd_T33 l0 (wrap64 (x6_2 - 1))).f0).toList) (((rd_T33 l0 x6_2).f0).toList)) = true) then (spec_RosterFollow.l0 k2 l0 l1 y155 (wrap64 (x6_2 + 1))) else (some y155)) else (none)) else (none)) else (spec_RosterFollow.l0 k2 l0 l1 y155 (wrap64 (x6_2 + 1))))) = some r := by rw [← hbq10] at H; exact H
        have Nbq10 := Aside0.mk hbq10
        clear hbq10
        by_cases c11 : bq10 = true
        ·
         subst c11
         have H1 : (some y155) = some r := by rw [if_pos rfl] at H; exact H
         clear H
         have H := H1
         clear H1
         obtain rfl := Option.some.inj H
         try go_wp2
         have n0_ := Aside0.mk (Kd.R_drew HO_5.out)
         have n1_ := Aside0.mk (below_drew1 HB.out)
         clear HO_5
         clear HB
         have HO_5 := n0_
         have HB := n1_
         clear n0_ n1_
         have p158 : 0 ≤ (x6_2 : Int) := of_decide_eq_true zb2_2
         have q158 : x6_2 < (l0.length : Int) := of_decide_eq_true zb2_2
         obtain ⟨ad158, e158, hx158_0, hx158_1, hx158_2, hx158_3, hx158_4⟩ := at_T33 HR0.out x6_2 p158 q158
         have hw158_4 := hx158_4
         have hw158_3 := hx158_3
         have hw158_2 := hx158_2
         have hw158_1 := hx158_1
         have hw158_0 := hx158_0
         (try rw [← Nbq10.out] at hx158_4)
         (try rw [← Nbq10.out] at hw158_4)
         cases e158
         replace hx158_0 := (HB.out.cell (World.block_lt_of_cell? w _ hx158_0)).trans hx158_0
         replace hx158_1 := (HB.out.cell (World.block_lt_of_cell? w _ hx158_1)).trans hx158_1
         replace hx158_2 := (HB.out.cell (World.block_lt_of_cell? w _ hx158_2)).trans hx158_2
         replace hx158_3 := (HB.out.cell (World.block_lt_of_cell? w _ hx158_3)).trans hx158_3
         replace hx158_4 := (HB.out.cell (World.block_lt_of_cell? w _ hx158_4)).trans hx158_4
         replace p158 := eq_true p158
         replace q158 := eq_true q158
         refine start_ (n := 23) (S := fun w' => w'.cell? (ad158.add ((x6_2).toNat * 5)) = some (.string ((rd_T33 l0 x6_2).f0)) ∧ w'.cell? ⟨(ad158.add ((x6_2).toNat * 5)).block, (ad158.add ((x6_2).toNat * 5)).off + 1, none⟩ = some (.string ((rd_T33 l0 x6_2).f1)) ∧ w'.cell? ⟨(ad158.add ((x6_2).toNat * 5)).block, (ad158.add ((x6_2).toNat * 5)).off + 2, none⟩ = some (.string ((rd_T33 l0 x6_2).f2)) ∧ w'.cell? ⟨(ad158.add ((x6_2).toNat * 5)).block, (ad158.add ((x6_2).toNat * 5)).off + 3, none⟩ = some (.int .i64 ((rd_T33 l0 x6_2).f3)) ∧ w'.cell? ⟨(ad158.add ((x6_2).toNat * 5)).block, (ad158.add ((x6_2).toNat * 5)).off + 4, none⟩ = some (.bool true)) (ds := []) zm0_2 (by kernel_rfl) rfl rfl ⟨((HB.out.cell (World.block_lt_of_cell? w _ hw158_0)).trans hw158_0), ((HB.out.cell (World.block_lt_of_cell? w _ hw158_1)).trans hw158_1), ((HB.out.cell (World.block_lt_of_cell? w _ hw158_2)).trans hw158_2), ((HB.out.cell (World.block_lt_of_cell? w _ hw158_3)).trans hw158_3), ((HB.out.cell (World.block_lt_of_cell? w _ hw158_4)).trans hw158_4)⟩ (fun hHeld => ?_); refine with_tabW spec_RosterFollow.tab7 spec_RosterFollow.bits7 (fun HT_ HW_ => ?_)
         generalize wr.drew = w12 at HO_5 HB hx158_0 hx158_1 hx158_2 hx158_3 hx158_4 hHeld ⊢
         refine zp_2 0 (some 25) zm1_2 HT_ ?_
         refine zp_2 1 (some 26) zm2_2 HT_ ?_
         refine zp_2 2 (some 27) zm3_2 HT_ ?_
         refine zp_2 3 (some 28) zm4_2 HT_ ?_
         refine take_ (i := 4) (N := some 29) (v := ?_) (a' := ?_) zm5_2 rfl rfl (take_ofW HT_.out HW_.out (by kernel_rfl)) (fun _ _ _ h => h) (Or.inl ⟨by rfl, ?_⟩) hHeld ?_ ?_
         rotate_left
         ·
          rintro w' ⟨s0, s1, s2, s3, s4⟩
          go_simp
          with_reducible rfl
         rotate_left
         ·
          simp only [Act.put, List.setIfInBounds_toArray, List.set_cons_zero, List.set_cons_succ, i64_w, i32_w]
          rfl
         refine zp_2 5 (some 30) zm6_2 HT_ ?_
         refine zu_2 6 (some 31) zm7_2 HT_ ?_
         refine zu_2 7 (some 32) zm8_2 HT_ ?_
         refine zu_2 8 (some 33) zm9_2 HT_ ?_
         refine zu_2 9 (some 34) zm10_2 HT_ ?_
         refine zu_2 10 (some 35) zm11_2 HT_ ?_
         refine zu_2 11 (some 36) zm12_2 HT_ ?_
         refine zu_2 12 (some 37) zm13_2 HT_ ?_
         refine zu_2 13 (some 38) zm14_2 HT_ ?_
         refine zu_2 14 (some 39) zm15_2 HT_ ?_
         refine zu_2 15 (some 40) zm16_2 HT_ ?_
         refine zu_2 16 (some 41) zm17_2 HT_ ?_
         refine zu_2 17 (some 42) zm18_2 HT_ ?_
         refine zu_2 18 (some 43) zm19_2 HT_ ?_
         refine zu_2 19 (some 44) zm20_2 HT_ ?_
         refine zu_2 20 (some 45) zm21_2 HT_ ?_
         refine zu_2 21 (some 46) zm22_2 HT_ ?_
         refine zp_2 22 (some 47) zm23_2 HT_ ?_
         refine done_ (done_of HT_.out (by kernel_rfl)) ?_
         try go_wp2
         go_ret
         exact ⟨_, by first | rfl | (simp [errW_none, errW_some] <;> rfl) | (simp [*, errW_none, errW_some] <;> rfl), by (with_reducible repeat (first | apply Kd.R_alloc | apply Kd.R_drewN | apply Kd.R_drew)); exact HO_5.out, by repeat (first | (with_reducible first | exact HB.out | apply below_alloc | apply pw_below_drewN | apply below_drew1) | exact HB.out)⟩
        ·
         replace c11 := Bool.eq_false_iff.mpr c11
         subst c11
         have H1 : (if x6_2 > 0 then (if 0 ≤ (wrap64 (x6_2 - 1)) then (if (wrap64 (x6_2 - 1)) < (l0.length : Int) then (if ((Op.bytesLess (((rd_T33 l0 (wrap64 (x6_2 - 1))).f0).toList) (((rd_T33 l0 x6_2).f0).toList)) = true) then (spec_RosterFollow.l0 k2 l0 l1 y155 (wrap64 (x6_2 + 1))) else (some y155)) else (none)) else (none)) else (spec_RosterFollow.l0 k2 l0 l1 y155 (wrap64 (x6_2 + 1)))) = some r := by rw [if_neg (show ¬ (false = true) by decide)] at H; exact H
         clear H
         have H := H1
         clear H1
         by_cases c13 : x6_2 > 0
         ·
          rw [if_pos c13] at H
          have c13b0 : decide (0 < x6_2) = true := decide_eq_true c13
          clear c13
          obtain ⟨ji14, hji14⟩ : ∃ j_ : Int, (wrap64 (x6_2 - 1)) = j_ := ⟨_, rfl⟩
          replace H : (if 0 ≤ (ji14) then (if (ji14) < (l0.length : Int) then (if ((Op.bytesLess (((rd_T33 l0 (ji14)).f0).toList) (((rd_T33 l0 x6_2).f0).toList)) = true) then (spec_RosterFollow.l0 k2 l0 l1 y155 (wrap64 (x6_2 + 1))) else (some y155)) else (none)) else (none)) = some r := by first | (rw [hji14] at H; exact H) | (simp only [hji14] at H ⊢; exact H)
          have hji14w : (IntKind.i64.wrap (x6_2 - 1)) = ji14 := (i64_w _).trans hji14
          by_cases c15 : 0 ≤ (ji14)
          ·
           rw [if_pos c15] at H
           have c15b0 : decide (0 ≤ (ji14)) = true := decide_eq_true c15
           clear c15
           by_cases c16 : (ji14) < (l0.length : Int)
           ·
            rw [if_pos c16] at H
            have c16b0 : decide ((ji14) < (l0.length : Int)) = true := decide_eq_true c16
            clear c16
            by_cases c17 : ((Op.bytesLess (((rd_T33 l0 (ji14)).f0).toList) (((rd_T33 l0 x6_2).f0).toList)) = true)
            ·
             rw [if_pos c17] at H
             have c17b0 : (Op.bytesLess (((rd_T33 l0 (ji14)).f0).toList) (((rd_T33 l0 x6_2).f0).toList)) = true := c17
             clear c17
             have H' := Aside0.mk H
             clear H
             try go_wp2
             have n0_ := Aside0.mk (Kd.R_drew HO_5.out)
             have n1_ := Aside0.mk (below_drew1 HB.out)
             clear HO_5
             clear HB
             have HO_5 := n0_
             have HB := n1_
             clear n0_ n1_
             have p158 : 0 ≤ (x6_2 : Int) := of_decide_eq_true zb2_2
             have q158 : x6_2 < (l0.length : Int) := of_decide_eq_true zb2_2
             obtain ⟨ad158, e158, hx158_0, hx158_1, hx158_2, hx158_3, hx158_4⟩ := at_T33 HR0.out x6_2 p158 q158
             have hw158_4 := hx158_4
             have hw158_3 := hx158_3
             have hw158_2 := hx158_2
             have hw158_1 := hx158_1
             have hw158_0 := hx158_0
             (try rw [← Nbq10.out] at hx158_4)
             (try rw [← Nbq10.out] at hw158_4)
             cases e158
             replace hx158_0 := (HB.out.cell (World.block_lt_of_cell? w _ hx158_0)).trans hx158_0
             replace hx158_1 := (HB.out.cell (World.block_lt_of_cell? w _ hx158_1)).trans hx158_1
             replace hx158_2 := (HB.out.cell (World.block_lt_of_cell? w _ hx158_2)).trans hx158_2
             replace hx158_3 := (HB.out.cell (World.block_lt_of_cell? w _ hx158_3)).trans hx158_3
             replace hx158_4 := (HB.out.cell (World.block_lt_of_cell? w _ hx158_4)).trans hx158_4
             replace p158 := eq_true p158
             replace q158 := eq_true q158
             have p159 : 0 ≤ ((ji14) : Int) := of_decide_eq_true zb2_2
             have q159 : (ji14) < (l0.length : Int) := of_decide_eq_true zb2_2
             obtain ⟨ad159, e159, hx159_0, hx159_1, hx159_2, hx159_3, hx159_4⟩ := at_T33 HR0.out (ji14) p159 q159
             have hw159_4 := hx159_4
             have hw159_3 := hx159_3
             have hw159_2 := hx159_2
             have hw159_1 := hx159_1
             have hw159_0 := hx159_0
             (try rw [← Nbq10.out] at hx159_4)
             (try rw [← Nbq10.out] at hw159_4)
             obtain rfl : ad158 = ad159 := (by injection e159)
             replace hx159_0 := (HB.out.cell (World.block_lt_of_cell? w _ hx159_0)).trans hx159_0
             replace hx159_1 := (HB.out.cell (World.block_lt_of_cell? w _ hx159_1)).trans hx159_1
             replace hx159_2 := (HB.out.cell (World.block_lt_of_cell? w _ hx159_2)).trans hx159_2
             replace hx159_3 := (HB.out.cell (World.block_lt_of_cell? w _ hx159_3)).trans hx159_3
             replace hx159_4 := (HB.out.cell (World.block_lt_of_cell? w _ hx159_4)).trans hx159_4
             replace p159 := eq_true p159
             replace q159 := eq_true q159
             have p160 : 0 ≤ (x6_2 : Int) := of_decide_eq_true zb2_2
             have q160 : x6_2 < (l0.length : Int) := of_decide_eq_true zb2_2
             obtain ⟨ad160, e160, hx160_0, hx160_1, hx160_2, hx160_3, hx160_4⟩ := at_T33 HR0.out x6_2 p160 q160
             have hw160_4 := hx160_4
             have hw160_3 := hx160_3
             have hw160_2 := hx160_2
             have hw160_1 := hx160_1
             have hw160_0 := hx160_0
             (try rw [← Nbq10.out] at hx160_4)
             (try rw [← Nbq10.out] at hw160_4)
             obtain rfl : ad158 = ad160 := (by injection e160)
             replace hx160_0 := (HB.out.cell (World.block_lt_of_cell? w _ hx160_0)).trans hx160_0
             replace hx160_1 := (HB.out.cell (World.block_lt_of_cell? w _ hx160_1)).trans hx160_1
             replace hx160_2 := (HB.out.cell (World.block_lt_of_cell? w _ hx160_2)).trans hx160_2
             replace hx160_3 := (HB.out.cell (World.block_lt_of_cell? w _ hx160_3)).trans hx160_3
             replace hx160_4 := (HB.out.cell (World.block_lt_of_cell? w _ hx160_4)).trans hx160_4
             replace p160 := eq_true p160
             replace q160 := eq_true q160
             refine start_ (n := 23) (S := fun w' => w'.cell? (ad158.add ((x6_2).toNat * 5)) = some (.string ((rd_T33 l0 x6_2).f0)) ∧ w'.cell? ⟨(ad158.add ((x6_2).toNat * 5)).block, (ad158.add ((x6_2).toNat * 5)).off + 1, none⟩ = some (.string ((rd_T33 l0 x6_2).f1)) ∧ w'.cell? ⟨(ad158.add ((x6_2).toNat * 5)).block, (ad158.add ((x6_2).toNat * 5)).off + 2, none⟩ = some (.string ((rd_T33 l0 x6_2).f2)) ∧ w'.cell? ⟨(ad158.add ((x6_2).toNat * 5)).block, (ad158.add ((x6_2).toNat * 5)).off + 3, none⟩ = some (.int .i64 ((rd_T33 l0 x6_2).f3)) ∧ w'.cell? ⟨(ad158.add ((x6_2).toNat * 5)).block, (ad158.add ((x6_2).toNat * 5)).off + 4, none⟩ = some (.bool false) ∧ w'.cell? (ad158.add (((ji14)).toNat * 5)) = some (.string ((rd_T33 l0 (ji14)).f0)) ∧ w'.cell? ⟨(ad158.add (((ji14)).toNat * 5)).block, (ad158.add (((ji14)).toNat * 5)).off + 1, none⟩ = some (.string ((rd_T33 l0 (ji14)).f1)) ∧ w'.cell? ⟨(ad158.add (((ji14)).toNat * 5)).block, (ad158.add (((ji14)).toNat * 5)).off + 2, none⟩ = some (.string ((rd_T33 l0 (ji14)).f2)) ∧ w'.cell? ⟨(ad158.add (((ji14)).toNat * 5)).block, (ad158.add (((ji14)).toNat * 5)).off + 3, none⟩ = some (.int .i64 ((rd_T33 l0 (ji14)).f3)) ∧ w'.cell? ⟨(ad158.add (((ji14)).toNat * 5)).block, (ad158.add (((ji14)).toNat * 5)).off + 4, none⟩ = some (.bool ((rd_T33 l0 (ji14)).f4)) ∧ w'.cell? (ad158.add ((x6_2).toNat * 5)) = some (.string ((rd_T33 l0 x6_2).f0)) ∧ w'.cell? ⟨(ad158.add ((x6_2).toNat * 5)).block, (ad158.add ((x6_2).toNat * 5)).off + 1, none⟩ = some (.string ((rd_T33 l0 x6_2).f1)) ∧ w'.cell? ⟨(ad158.add ((x6_2).toNat * 5)).block, (ad158.add ((x6_2).toNat * 5)).off + 2, none⟩ = some (.string ((rd_T33 l0 x6_2).f2)) ∧ w'.cell? ⟨(ad158.add ((x6_2).toNat * 5)).block, (ad158.add ((x6_2).toNat * 5)).off + 3, none⟩ = some (.int .i64 ((rd_T33 l0 x6_2).f3)) ∧ w'.cell? ⟨(ad158.add ((x6_2).toNat * 5)).block, (ad158.add ((x6_2).toNat * 5)).off + 4, none⟩ = some (.bool (false))) (ds := []) zm0_2 (by kernel_rfl) rfl rfl ⟨((HB.out.cell (World.block_lt_of_cell? w _ hw158_0)).trans hw158_0), ((HB.out.cell (World.block_lt_of_cell? w _ hw158_1)).trans hw158_1), ((HB.out.cell (World.block_lt_of_cell? w _ hw158_2)).trans hw158_2), ((HB.out.cell (World.block_lt_of_cell? w _ hw158_3)).trans hw158_3), ((HB.out.cell (World.block_lt_of_cell? w _ hw158_4)).trans hw158_4), ((HB.out.cell (World.block_lt_of_cell? w _ hw159_0)).trans hw159_0), ((HB.out.cell (World.block_lt_of_cell? w _ hw159_1)).trans hw159_1), ((HB.out.cell (World.block_lt_of_cell? w _ hw159_2)).trans hw159_2), ((HB.out.cell (World.block_lt_of_cell? w _ hw159_3)).trans hw159_3), ((HB.out.cell (World.block_lt_of_cell? w _ hw159_4)).trans hw159_4), ((HB.out.cell (World.block_lt_of_cell? w _ hw160_0)).trans hw160_0), ((HB.out.cell (World.block_lt_of_cell? w _ hw160_1)).trans hw160_1), ((HB.out.cell (World.block_lt_of_cell? w _ hw160_2)).trans hw160_2), ((HB.out.cell (World.block_lt_of_cell? w _ hw160_3)).trans hw160_3), ((HB.out.cell (World.block_lt_of_cell? w _ hw160_4)).trans hw160_4)⟩ (fun hHeld => ?_); refine with_tabW spec_RosterFollow.tab7 spec_RosterFollow.bits7 (fun HT_ HW_ => ?_)
             generalize wr.drew = w18 at HO_5 HB hx158_0 hx158_1 hx158_2 hx158_3 hx158_4 hx159_0 hx159_1 hx159_2 hx159_3 hx159_4 hx160_0 hx160_1 hx160_2 hx160_3 hx160_4 hHeld ⊢
             refine zp_2 0 (some 25) zm1_2 HT_ ?_
             refine zp_2 1 (some 26) zm2_2 HT_ ?_
             refine zp_2 2 (some 27) zm3_2 HT_ ?_
             refine zp_2 3 (some 28) zm4_2 HT_ ?_
             refine take_ (i := 4) (N := some 29) (v := ?_) (a' := ?_) zm5_2 rfl rfl (take_ofW HT_.out HW_.out (by kernel_rfl)) (fun _ _ _ h => h) (Or.inl ⟨by rfl, ?_⟩) hHeld ?_ ?_
             rotate_left
             ·
              rintro w' ⟨s0, s1, s2, s3, s4, s5, s6, s7, s8, s9, s10, s11, s12, s13, s14⟩
              go_simp
              with_reducible rfl
             rotate_left
             ·
              simp only [Act.put, List.setIfInBounds_toArray, List.set_cons_zero, List.set_cons_succ, i64_w, i32_w]
              rfl
             refine zp_2 5 (some 30) zm6_2 HT_ ?_
             refine zp_2 6 (some 31) zm7_2 HT_ ?_
             refine zp_2 7 (some 32) zm8_2 HT_ ?_
             refine zp_2 8 (some 33) zm9_2 HT_ ?_
             refine zp_2 9 (some 34) zm10_2 HT_ ?_
             refine zp_2 10 (some 35) zm11_2 HT_ ?_
             refine zp_2 11 (some 36) zm12_2 HT_ ?_
             refine zp_2 12 (some 37) zm13_2 HT_ ?_
             refine zp_2 13 (some 38) zm14_2 HT_ ?_
             refine zp_2 15 (some 40) zm24_2 HT_ ?_
             refine zp_2 16 (some 41) zm25_2 HT_ ?_
             refine zp_2 17 (some 42) zm26_2 HT_ ?_
             refine zp_2 18 (some 43) zm27_2 HT_ ?_
             refine take_ (i := 14) (N := some 39) (v := ?_) (a' := ?_) zm19_2 rfl rfl (take_ofW HT_.out HW_.out (by kernel_rfl)) (fun _ _ _ h => h) (Or.inl ⟨by rfl, ?_⟩) hHeld ?_ ?_
             rotate_left
             ·
              rintro w' ⟨s0, s1, s2, s3, s4, s5, s6, s7, s8, s9, s10, s11, s12, s13, s14⟩
              go_simp
              with_reducible rfl
             rotate_left
             ·
              simp only [Act.put, List.setIfInBounds_toArray, List.set_cons_zero, List.set_cons_succ, i64_w, i32_w]
              rfl
             refine take_ (i := 19) (N := some 44) (v := ?_) (a' := ?_) zm20_2 rfl rfl (take_ofW HT_.out HW_.out (by kernel_rfl)) (fun _ _ _ h => h) (Or.inl ⟨by rfl, ?_⟩) hHeld ?_ ?_
             rotate_left
             ·
              rintro w' ⟨s0, s1, s2, s3, s4, s5, s6, s7, s8, s9, s10, s11, s12, s13, s14⟩
              go_simp
              with_reducible rfl
             rotate_left
             ·
              simp only [Act.put, List.setIfInBounds_toArray, List.set_cons_zero, List.set_cons_succ, i64_w, i32_w]
              rfl
             refine zp_2 20 (some 45) zm21_2 HT_ ?_
             refine zp_2 21 (some 46) zm22_2 HT_ ?_
             refine zp_2 22 (some 47) zm23_2 HT_ ?_
             refine done_ (done_of HT_.out (by kernel_rfl)) ?_
             try go_wp2
             go_roundg k2
             case measure => have := HJ2.out; have := HK2.out; omega
             case rel => exact ⟨(wrap64 (x6_2 + 1)), zb1_2, H', ⟨by have := HJ2.out; have := HK2.out; omega⟩, ⟨by (with_reducible repeat (first | apply Kd.R_alloc | apply Kd.R_drewN | apply Kd.R_drew)); exact HO_5.out⟩, ⟨by repeat (first | (with_reducible first | exact HB.out | apply below_alloc | apply pw_below_drewN | apply below_drew1) | exact HB.out)⟩⟩
            ·
             rw [if_neg c17] at H
             have c17b0 : (Op.bytesLess (((rd_T33 l0 (ji14)).f0).toList) (((rd_T33 l0 x6_2).f0).toList)) = false := by simpa using c17
             clear c17
             obtain rfl := Option.some.inj H
             try go_wp2
             have n0_ := Aside0.mk (Kd.R_drew HO_5.out)
             have n1_ := Aside0.mk (below_drew1 HB.out)
             clear HO_5
             clear HB
             have HO_5 := n0_
             have HB := n1_
             clear n0_ n1_
             have p158 : 0 ≤ (x6_2 : Int) := of_decide_eq_true zb2_2
             have q158 : x6_2 < (l0.length : Int) := of_decide_eq_true zb2_2
             obtain ⟨ad158, e158, hx158_0, hx158_1, hx158_2, hx158_3, hx158_4⟩ := at_T33 HR0.out x6_2 p158 q158
             have hw158_4 := hx158_4
             have hw158_3 := hx158_3
             have hw158_2 := hx158_2
             have hw158_1 := hx158_1
             have hw158_0 := hx158_0
             (try rw [← Nbq10.out] at hx158_4)
             (try rw [← Nbq10.out] at hw158_4)
             cases e158
             replace hx158_0 := (HB.out.cell (World.block_lt_of_cell? w _ hx158_0)).trans hx158_0
             replace hx158_1 := (HB.out.cell (World.block_lt_of_cell? w _ hx158_1)).trans hx158_1
             replace hx158_2 := (HB.out.cell (World.block_lt_of_cell? w _ hx158_2)).trans hx158_2
             replace hx158_3 := (HB.out.cell (World.block_lt_of_cell? w _ hx158_3)).trans hx158_3
             replace hx158_4 := (HB.out.cell (World.block_lt_of_cell? w _ hx158_4)).trans hx158_4
             replace p158 := eq_true p158
             replace q158 := eq_true q158
             have p159 : 0 ≤ ((ji14) : Int) := of_decide_eq_true zb2_2
             have q159 : (ji14) < (l0.length : Int) := of_decide_eq_true zb2_2
             obtain ⟨ad159, e159, hx159_0, hx159_1, hx159_2, hx159_3, hx159_4⟩ := at_T33 HR0.out (ji14) p159 q159
             have hw159_4 := hx159_4
             have hw159_3 := hx159_3
             have hw159_2 := hx159_2
             have hw159_1 := hx159_1
             have hw159_0 := hx159_0
             (try rw [← Nbq10.out] at hx159_4)
             (try rw [← Nbq10.out] at hw159_4)
             obtain rfl : ad158 = ad159 := (by injection e159)
             replace hx159_0 := (HB.out.cell (World.block_lt_of_cell? w _ hx159_0)).trans hx159_0
             replace hx159_1 := (HB.out.cell (World.block_lt_of_cell? w _ hx159_1)).trans hx159_1
             replace hx159_2 := (HB.out.cell (World.block_lt_of_cell? w _ hx159_2)).trans hx159_2
             replace hx159_3 := (HB.out.cell (World.block_lt_of_cell? w _ hx159_3)).trans hx159_3
             replace hx159_4 := (HB.out.cell (World.block_lt_of_cell? w _ hx159_4)).trans hx159_4
             replace p159 := eq_true p159
             replace q159 := eq_true q159
             have p160 : 0 ≤ (x6_2 : Int) := of_decide_eq_true zb2_2
             have q160 : x6_2 < (l0.length : Int) := of_decide_eq_true zb2_2
             obtain ⟨ad160, e160, hx160_0, hx160_1, hx160_2, hx160_3, hx160_4⟩ := at_T33 HR0.out x6_2 p160 q160
             have hw160_4 := hx160_4
             have hw160_3 := hx160_3
             have hw160_2 := hx160_2
             have hw160_1 := hx160_1
             have hw160_0 := hx160_0
             (try rw [← Nbq10.out] at hx160_4)
             (try rw [← Nbq10.out] at hw160_4)
             obtain rfl : ad158 = ad160 := (by injection e160)
             replace hx160_0 := (HB.out.cell (World.block_lt_of_cell? w _ hx160_0)).trans hx160_0
             replace hx160_1 := (HB.out.cell (World.block_lt_of_cell? w _ hx160_1)).trans hx160_1
             replace hx160_2 := (HB.out.cell (World.block_lt_of_cell? w _ hx160_2)).trans hx160_2
             replace hx160_3 := (HB.out.cell (World.block_lt_of_cell? w _ hx160_3)).trans hx160_3
             replace hx160_4 := (HB.out.cell (World.block_lt_of_cell? w _ hx160_4)).trans hx160_4
             replace p160 := eq_true p160
             replace q160 := eq_true q160
             refine start_ (n := 23) (S := fun w' => w'.cell? (ad158.add ((x6_2).toNat * 5)) = some (.string ((rd_T33 l0 x6_2).f0)) ∧ w'.cell? ⟨(ad158.add ((x6_2).toNat * 5)).block, (ad158.add ((x6_2).toNat * 5)).off + 1, none⟩ = some (.string ((rd_T33 l0 x6_2).f1)) ∧ w'.cell? ⟨(ad158.add ((x6_2).toNat * 5)).block, (ad158.add ((x6_2).toNat * 5)).off + 2, none⟩ = some (.string ((rd_T33 l0 x6_2).f2)) ∧ w'.cell? ⟨(ad158.add ((x6_2).toNat * 5)).block, (ad158.add ((x6_2).toNat * 5)).off + 3, none⟩ = some (.int .i64 ((rd_T33 l0 x6_2).f3)) ∧ w'.cell? ⟨(ad158.add ((x6_2).toNat * 5)).block, (ad158.add ((x6_2).toNat * 5)).off + 4, none⟩ = some (.bool false) ∧ w'.cell? (ad158.add (((ji14)).toNat * 5)) = some (.string ((rd_T33 l0 (ji14)).f0)) ∧ w'.cell? ⟨(ad158.add (((ji14)).toNat * 5)).block, (ad158.add (((ji14)).toNat * 5)).off + 1, none⟩ = some (.string ((rd_T33 l0 (ji14)).f1)) ∧ w'.cell? ⟨(ad158.add (((ji14)).toNat * 5)).block, (ad158.add (((ji14)).toNat * 5)).off + 2, none⟩ = some (.string ((rd_T33 l0 (ji14)).f2)) ∧ w'.cell? ⟨(ad158.add (((ji14)).toNat * 5)).block, (ad158.add (((ji14)).toNat * 5)).off + 3, none⟩ = some (.int .i64 ((rd_T33 l0 (ji14)).f3)) ∧ w'.cell? ⟨(ad158.add (((ji14)).toNat * 5)).block, (ad158.add (((ji14)).toNat * 5)).off + 4, none⟩ = some (.bool ((rd_T33 l0 (ji14)).f4)) ∧ w'.cell? (ad158.add ((x6_2).toNat * 5)) = some (.string ((rd_T33 l0 x6_2).f0)) ∧ w'.cell? ⟨(ad158.add ((x6_2).toNat * 5)).block, (ad158.add ((x6_2).toNat * 5)).off + 1, none⟩ = some (.string ((rd_T33 l0 x6_2).f1)) ∧ w'.cell? ⟨(ad158.add ((x6_2).toNat * 5)).block, (ad158.add ((x6_2).toNat * 5)).off + 2, none⟩ = some (.string ((rd_T33 l0 x6_2).f2)) ∧ w'.cell? ⟨(ad158.add ((x6_2).toNat * 5)).block, (ad158.add ((x6_2).toNat * 5)).off + 3, none⟩ = some (.int .i64 ((rd_T33 l0 x6_2).f3)) ∧ w'.cell? ⟨(ad158.add ((x6_2).toNat * 5)).block, (ad158.add ((x6_2).toNat * 5)).off + 4, none⟩ = some (.bool (false))) (ds := []) zm0_2 (by kernel_rfl) rfl rfl ⟨((HB.out.cell (World.block_lt_of_cell? w _ hw158_0)).trans hw158_0), ((HB.out.cell (World.block_lt_of_cell? w _ hw158_1)).trans hw158_1), ((HB.out.cell (World.block_lt_of_cell? w _ hw158_2)).trans hw158_2), ((HB.out.cell (World.block_lt_of_cell? w _ hw158_3)).trans hw158_3), ((HB.out.cell (World.block_lt_of_cell? w _ hw158_4)).trans hw158_4), ((HB.out.cell (World.block_lt_of_cell? w _ hw159_0)).trans hw159_0), ((HB.out.cell (World.block_lt_of_cell? w _ hw159_1)).trans hw159_1), ((HB.out.cell (World.block_lt_of_cell? w _ hw159_2)).trans hw159_2), ((HB.out.cell (World.block_lt_of_cell? w _ hw159_3)).trans hw159_3), ((HB.out.cell (World.block_lt_of_cell? w _ hw159_4)).trans hw159_4), ((HB.out.cell (World.block_lt_of_cell? w _ hw160_0)).trans hw160_0), ((HB.out.cell (World.block_lt_of_cell? w _ hw160_1)).trans hw160_1), ((HB.out.cell (World.block_lt_of_cell? w _ hw160_2)).trans hw160_2), ((HB.out.cell (World.block_lt_of_cell? w _ hw160_3)).trans hw160_3), ((HB.out.cell (World.block_lt_of_cell? w _ hw160_4)).trans hw160_4)⟩ (fun hHeld => ?_); refine with_tabW spec_RosterFollow.tab7 spec_RosterFollow.bits7 (fun HT_ HW_ => ?_)
             generalize wr.drew = w19 at HO_5 HB hx158_0 hx158_1 hx158_2 hx158_3 hx158_4 hx159_0 hx159_1 hx159_2 hx159_3 hx159_4 hx160_0 hx160_1 hx160_2 hx160_3 hx160_4 hHeld ⊢
             refine zp_2 0 (some 25) zm1_2 HT_ ?_
             refine zp_2 1 (some 26) zm2_2 HT_ ?_
             refine zp_2 2 (some 27) zm3_2 HT_ ?_
             refine zp_2 3 (some 28) zm4_2 HT_ ?_
             refine take_ (i := 4) (N := some 29) (v := ?_) (a' := ?_) zm5_2 rfl rfl (take_ofW HT_.out HW_.out (by kernel_rfl)) (fun _ _ _ h => h) (Or.inl ⟨by rfl, ?_⟩) hHeld ?_ ?_
             rotate_left
             ·
              rintro w' ⟨s0, s1, s2, s3, s4, s5, s6, s7, s8, s9, s10, s11, s12, s13, s14⟩
              go_simp
              with_reducible rfl
             rotate_left
             ·
              simp only [Act.put, List.setIfInBounds_toArray, List.set_cons_zero, List.set_cons_succ, i64_w, i32_w]
              rfl
             refine zp_2 5 (some 30) zm6_2 HT_ ?_
             refine zp_2 6 (some 31) zm7_2 HT_ ?_
             refine zp_2 7 (some 32) zm8_2 HT_ ?_
             refine zp_2 8 (some 33) zm9_2 HT_ ?_
             refine zp_2 9 (some 34) zm10_2 HT_ ?_
             refine zp_2 10 (some 35) zm11_2 HT_ ?_
             refine zp_2 11 (some 36) zm12_2 HT_ ?_
             refine zp_2 12 (some 37) zm13_2 HT_ ?_
             refine zp_2 13 (some 38) zm14_2 HT_ ?_
             refine zp_2 15 (some 40) zm24_2 HT_ ?_
             refine zp_2 16 (some 41) zm25_2 HT_ ?_
             refine zp_2 17 (some 42) zm26_2 HT_ ?_
             refine zp_2 18 (some 43) zm27_2 HT_ ?_
             refine take_ (i := 14) (N := some 39) (v := ?_) (a' := ?_) zm19_2 rfl rfl (take_ofW HT_.out HW_.out (by kernel_rfl)) (fun _ _ _ h => h) (Or.inl ⟨by rfl, ?_⟩) hHeld ?_ ?_
             rotate_left
             ·
              rintro w' ⟨s0, s1, s2, s3, s4, s5, s6, s7, s8, s9, s10, s11, s12, s13, s14⟩
              go_simp
              with_reducible rfl
             rotate_left
             ·
              simp only [Act.put, List.setIfInBounds_toArray, List.set_cons_zero, List.set_cons_succ, i64_w, i32_w]
              rfl
             refine take_ (i := 19) (N := some 44) (v := ?_) (a' := ?_) zm20_2 rfl rfl (take_ofW HT_.out HW_.out (by kernel_rfl)) (fun _ _ _ h => h) (Or.inl ⟨by rfl, ?_⟩) hHeld ?_ ?_
             rotate_left
             ·
              rintro w' ⟨s0, s1, s2, s3, s4, s5, s6, s7, s8, s9, s10, s11, s12, s13, s14⟩
              go_simp
              with_reducible rfl
             rotate_left
             ·
              simp only [Act.put, List.setIfInBounds_toArray, List.set_cons_zero, List.set_cons_succ, i64_w, i32_w]
              rfl
             refine zp_2 20 (some 45) zm21_2 HT_ ?_
             refine zp_2 21 (some 46) zm22_2 HT_ ?_
             refine zp_2 22 (some 47) zm23_2 HT_ ?_
             refine done_ (done_of HT_.out (by kernel_rfl)) ?_
             try go_wp2
             go_ret
             exact ⟨_, by first | rfl | (simp [errW_none, errW_some] <;> rfl) | (simp only [← hji14]; first | rfl | (simp [errW_none, errW_some] <;> rfl)) | (simp [*, errW_none, errW_some] <;> rfl), by (with_reducible repeat (first | apply Kd.R_alloc | apply Kd.R_drewN | apply Kd.R_drew)); exact HO_5.out, by repeat (first | (with_reducible first | exact HB.out | apply below_alloc | apply pw_below_drewN | apply below_drew1) | exact HB.out)⟩
           ·
            rw [if_neg c16] at H
            exact absurd H (by simp)
          ·
           rw [if_neg c15] at H
           exact absurd H (by simp)
         ·
          rw [if_neg c13] at H
          have c13b0 : decide (0 < x6_2) = false := decide_eq_false c13
          clear c13
          have H' := Aside0.mk H
          clear H
          try go_wp2
          have n0_ := Aside0.mk (Kd.R_drew HO_5.out)
          have n1_ := Aside0.mk (below_drew1 HB.out)
          clear HO_5
          clear HB
          have HO_5 := n0_
          have HB := n1_
          clear n0_ n1_
          have p158 : 0 ≤ (x6_2 : Int) := of_decide_eq_true zb2_2
          have q158 : x6_2 < (l0.length : Int) := of_decide_eq_true zb2_2
          obtain ⟨ad158, e158, hx158_0, hx158_1, hx158_2, hx158_3, hx158_4⟩ := at_T33 HR0.out x6_2 p158 q158
          have hw158_4 := hx158_4
          have hw158_3 := hx158_3
          have hw158_2 := hx158_2
          have hw158_1 := hx158_1
          have hw158_0 := hx158_0
          (try rw [← Nbq10.out] at hx158_4)
          (try rw [← Nbq10.out] at hw158_4)
          cases e158
          replace hx158_0 := (HB.out.cell (World.block_lt_of_cell? w _ hx158_0)).trans hx158_0
          replace hx158_1 := (HB.out.cell (World.block_lt_of_cell? w _ hx158_1)).trans hx158_1
          replace hx158_2 := (HB.out.cell (World.block_lt_of_cell? w _ hx158_2)).trans hx158_2
          replace hx158_3 := (HB.out.cell (World.block_lt_of_cell? w _ hx158_3)).trans hx158_3
          replace hx158_4 := (HB.out.cell (World.block_lt_of_cell? w _ hx158_4)).trans hx158_4
          replace p158 := eq_true p158
          replace q158 := eq_true q158
          refine start_ (n := 23) (S := fun w' => w'.cell? (ad158.add ((x6_2).toNat * 5)) = some (.string ((rd_T33 l0 x6_2).f0)) ∧ w'.cell? ⟨(ad158.add ((x6_2).toNat * 5)).block, (ad158.add ((x6_2).toNat * 5)).off + 1, none⟩ = some (.string ((rd_T33 l0 x6_2).f1)) ∧ w'.cell? ⟨(ad158.add ((x6_2).toNat * 5)).block, (ad158.add ((x6_2).toNat * 5)).off + 2, none⟩ = some (.string ((rd_T33 l0 x6_2).f2)) ∧ w'.cell? ⟨(ad158.add ((x6_2).toNat * 5)).block, (ad158.add ((x6_2).toNat * 5)).off + 3, none⟩ = some (.int .i64 ((rd_T33 l0 x6_2).f3)) ∧ w'.cell? ⟨(ad158.add ((x6_2).toNat * 5)).block, (ad158.add ((x6_2).toNat * 5)).off + 4, none⟩ = some (.bool false)) (ds := []) zm0_2 (by kernel_rfl) rfl rfl ⟨((HB.out.cell (World.block_lt_of_cell? w _ hw158_0)).trans hw158_0), ((HB.out.cell (World.block_lt_of_cell? w _ hw158_1)).trans hw158_1), ((HB.out.cell (World.block_lt_of_cell? w _ hw158_2)).trans hw158_2), ((HB.out.cell (World.block_lt_of_cell? w _ hw158_3)).trans hw158_3), ((HB.out.cell (World.block_lt_of_cell? w _ hw158_4)).trans hw158_4)⟩ (fun hHeld => ?_); refine with_tabW spec_RosterFollow.tab7 spec_RosterFollow.bits7 (fun HT_ HW_ => ?_)
          generalize wr.drew = w20 at HO_5 HB hx158_0 hx158_1 hx158_2 hx158_3 hx158_4 hHeld ⊢
          refine zp_2 0 (some 25) zm1_2 HT_ ?_
          refine zp_2 1 (some 26) zm2_2 HT_ ?_
          refine zp_2 2 (some 27) zm3_2 HT_ ?_
          refine zp_2 3 (some 28) zm4_2 HT_ ?_
          refine take_ (i := 4) (N := some 29) (v := ?_) (a' := ?_) zm5_2 rfl rfl (take_ofW HT_.out HW_.out (by kernel_rfl)) (fun _ _ _ h => h) (Or.inl ⟨by rfl, ?_⟩) hHeld ?_ ?_
          rotate_left
          ·
           rintro w' ⟨s0, s1, s2, s3, s4⟩
           go_simp
           with_reducible rfl
          rotate_left
          ·
           simp only [Act.put, List.setIfInBounds_toArray, List.set_cons_zero, List.set_cons_succ, i64_w, i32_w]
           rfl
          refine zp_2 5 (some 30) zm6_2 HT_ ?_
          refine zp_2 6 (some 31) zm7_2 HT_ ?_
          refine zp_2 7 (some 32) zm8_2 HT_ ?_
          refine zp_2 8 (some 33) zm9_2 HT_ ?_
          refine zu_2 9 (some 34) zm10_2 HT_ ?_
          refine zu_2 10 (some 35) zm11_2 HT_ ?_
          refine zu_2 11 (some 36) zm12_2 HT_ ?_
          refine zu_2 12 (some 37) zm13_2 HT_ ?_
          refine zu_2 13 (some 38) zm14_2 HT_ ?_
          refine zu_2 14 (some 39) zm15_2 HT_ ?_
          refine zu_2 15 (some 40) zm16_2 HT_ ?_
          refine zu_2 16 (some 41) zm17_2 HT_ ?_
          refine zu_2 17 (some 42) zm18_2 HT_ ?_
          refine zu_2 18 (some 43) zm19_2 HT_ ?_
          refine zu_2 19 (some 44) zm20_2 HT_ ?_
          refine zu_2 20 (some 45) zm21_2 HT_ ?_
          refine zp_2 21 (some 46) zm22_2 HT_ ?_
          refine zp_2 22 (some 47) zm23_2 HT_ ?_
          refine done_ (done_of HT_.out (by kernel_rfl)) ?_
          try go_wp2
          go_roundg k2
          case measure => have := HJ2.out; have := HK2.out; omega
          case rel => exact ⟨(wrap64 (x6_2 + 1)), zb1_2, H', ⟨by have := HJ2.out; have := HK2.out; omega⟩, ⟨by (with_reducible repeat (first | apply Kd.R_alloc | apply Kd.R_drewN | apply Kd.R_drew)); exact HO_5.out⟩, ⟨by repeat (first | (with_reducible first | exact HB.out | apply below_alloc | apply pw_below_drewN | apply below_drew1) | exact HB.out)⟩⟩
       ·
        rw [if_neg c9] at H
        exact absurd H (by simp)
      ·
       rw [if_neg c8] at H
       have c8b0 : decide (x6_2 < (l0.length : Int)) = false := decide_eq_false c8
       clear c8
       by_cases c21 : y155.length + l0.length < 2199023255552
       ·
        rw [if_pos c21] at H
        have LMc21 := Aside0.mk c21
        clear c21
        obtain ⟨y161, hy161⟩ : ∃ y_ : List (S33), y_ = (y155 ++ l0) := ⟨_, rfl⟩
        replace H : (spec_RosterFollow.l1 k2 l1 y161 0) = some r := by first | (rw [hy161]; with_reducible exact H) | (have H2_ := (Option.bind_some _ _).symm.trans H; rw [hy161]; with_reducible exact H2_) | (have H2_ := (Option.bind_some _ _).symm.trans H; with_reducible exact H2_) | with_reducible exact H | (rw [hy161]; exact H) | exact H
        have Ny161 := Aside0.mk hy161
        clear hy161
        have H' := Aside0.mk H
        clear H
        go_wp2_with (first | ((with_reducible refine gate_builtin (b := .append) (xs := #[.tmp 49, .tmp 50]) rfl ?_); (try (refine gate_guard (by rfl) ?_; dsimp only)); at_builtin; refine Kd.R_append_rows k33 (w0 := w) w.heap.size rfl (.tmp 49) (.tmp 50) 24 33 (.agg #[(.string ⟨#[]⟩), (.string ⟨#[]⟩), (.string ⟨#[]⟩), (.int .i64 0), (.bool false)]) 64 rfl Try.underlying24 info33 rfl (by decide) (by omega) v156 y155 l0 _ _ _ (fun _ => True) (fun _ => False) rfl rfl ?aO ?aR (fun _ _ h => h) (fun _ h => h.elim) ?aF ?aB ?aS ?aL ?_; (case aR => repeat (first | exact (Kd.C_below HR0.out HB.out) | exact (Kd.C_drewN (Kd.C_below HR0.out HB.out) _) | (with_reducible refine Kd.C_alloc ?_ _) | (with_reducible refine Kd.C_drewN ?_ _) | (with_reducible refine Kd.C_drew ?_))); (case aB => exact zb0_2); (case aF => exact (fun _ _ => trivial)); (case aO => exact zb3_2); (case aS => exact (below_size zb0_2)); (case aL => have := LMc21.out; omega); intro v162 w22 ho hb hg hat; rw [← Ny161.out] at ho; have n0_ := Aside0.mk (hb); have n1_ := Aside0.mk (ho); clear HB; clear HO_5; have HB := n0_; have HO163 := n1_; clear n0_ n1_; clear ho hb hg hat))
        go_loopg [5, 7] k2 (fun kq v5 v7 w' => ∃ (x5_3 : List (S33)) (x7_3 : Int), v7 = .int .i64 x7_3 ∧ Aside0 (spec_RosterFollow.l1 kq l1 x5_3 x7_3 = some r) ∧ Aside0 (kq ≤ k2) ∧ Aside0 (Kd.R k33 33 w' w.heap.size (fun _ => True) v5 x5_3) ∧ Aside0 (Below w.heap.size w w'))
        case atStart => exact ⟨(y161), (0), zb1_2, H', ⟨Nat.le_refl _⟩, ⟨by (with_reducible repeat (first | apply Kd.R_alloc | apply Kd.R_drewN | apply Kd.R_drew)); exact HO163.out⟩, ⟨by repeat (first | (with_reducible first | exact HB.out | apply below_alloc | apply pw_below_drewN | apply below_drew1) | exact HB.out)⟩⟩
        case round =>
         clear H'
         try clear c1
         try clear p1
         try clear q1
         try clear hx1
         try clear c2
         try clear p2
         try clear p6
         try clear c8
         try clear c8b0
         try clear c9
         try clear q10
         try clear c13
         try clear c13b0
         try clear c15
         try clear p15
         try clear q15
         try clear hx15
         try clear c16
         try clear p16
         try clear q16
         try clear hx16
         try clear c17
         try clear c17b0
         try clear c21
         try clear hx158_0
         try clear hx158_1
         try clear hx158_2
         try clear hx158_3
         try clear hx158_4
         try clear hx159_0
         try clear hx159_1
         try clear hx159_2
         try clear hx159_3
         try clear hx159_4
         try clear hx160_0
         try clear hx160_1
         try clear hx160_2
         try clear hx160_3
         try clear hx160_4
         try clear p158
         try clear p159
         try clear p160
         try clear q158
         try clear q159
         try clear q160
         obtain ⟨x5_3, x7_3, rfl, HA, HK3, HO_5, HB⟩ := hrel
         cases gk with
         | zero => exact absurd HA.out (by simp [spec_RosterFollow.l1])
         | succ k3 =>
          have H := HA.out
          clear HA
          simp only [spec_RosterFollow.l1] at H
          by_cases c23 : x7_3 < (l1.length : Int)
          ·
           rw [if_pos c23] at H
           have c23b0 : decide (x7_3 < (l1.length : Int)) = true := decide_eq_true c23
           clear c23
           by_cases c24 : 0 ≤ x7_3
           ·
            rw [if_pos c24] at H
            have c24b0 : decide (0 ≤ x7_3) = true := decide_eq_true c24
            clear c24
            obtain ⟨bq25, hbq25⟩ : ∃ b_ : Bool, b_ = ((rd_T33 l1 x7_3).f4) := ⟨_, rfl⟩
            replace H : (if (bq25 = true) then ((spec_l07At.f k3 x5_3 ((rd_T33 l1 x7_3).f0)).bind fun t166 => (if t166 ≥ 0 then ((some (([] : List (S33)) : List (S33))).bind fun y167 => (if 0 ≤ t166 then (if t166 ≤ (x5_3.length : Int) then ((some (x5_3.take (t166 : Int).toNat : List (S33))).bind fun y170 => (if y167.length + y170.length < 2199023255552 then ((some (y167 ++ y170 : List (S33))).bind fun y174 => (if 0 ≤ (wrap64 (t166 + 1)) then (if (wrap64 (t166 + 1)) ≤ (x5_3.length : Int) then ((some (x5_3.drop ((wrap64 (t166 + 1)) : Int).toNat : List (S33))).bind fun y177 => (if y174.length + y177.length < 2199023255552 then (spec_RosterFollow.l1 k3 l1 (y174 ++ y177) (wrap64 (x7_3 + 1))) else (none))) else (none)) else (none))) else (none))) else (none)) else (none))) else (spec_RosterFollow.l1 k3 l1 x5_3 (wrap64 (x7_3 + 1))))) else ((spec_l07Put.f k3 x5_3 ((rd_T33 l1 x7_3).f0) ((rd_T33 l1 x7_3).f1) ((rd_T33 l1 x7_3).f2) ((rd_T33 l1 x7_3).f3) (bq25)).bind fun t185 => (spec_RosterFollow.l1 k3 l1 t185 (wrap64 (x7_3 + 1))))) = some r := by rw [← hbq25] at H; exact H
            have Nbq25 := Aside0.mk hbq25
            clear hbq25
            by_cases c26 : (bq25 = true)
            ·
             subst c26
             have H1 : ((spec_l07At.f k3 x5_3 ((rd_T33 l1 x7_3).f0)).bind fun t166 => (if t166 ≥ 0 then ((some (([] : List (S33)) : List (S33))).bind fun y167 => (if 0 ≤ t166 then (if t166 ≤ (x5_3.length : Int) then ((some (x5_3.take (t166 : Int).toNat : List (S33))).bind fun y170 => (if y167.length + y170.length < 2199023255552 then ((some (y167 ++ y170 : List (S33))).bind fun y174 => (if 0 ≤ (wrap64 (t166 + 1)) then (if (wrap64 (t166 + 1)) ≤ (x5_3.length : Int) then ((some (x5_3.drop ((wrap64 (t166 + 1)) : Int).toNat : List (S33))).bind fun y177 => (if y174.length + y177.length < 2199023255552 then (spec_RosterFollow.l1 k3 l1 (y174 ++ y177) (wrap64 (x7_3 + 1))) else (none))) else (none)) else (none))) else (none))) else (none)) else (none))) else (spec_RosterFollow.l1 k3 l1 x5_3 (wrap64 (x7_3 + 1))))) = some r := by rw [if_pos rfl] at H; exact H
             clear H
             have H := H1
             clear H1
             replace H := Option.bind_eq_some_iff.mp H
             obtain ⟨t166, A270, H⟩ := H
             replace H : (if t166 ≥ 0 then ((some (([] : List (S33)) : List (S33))).bind fun y167 => (if 0 ≤ t166 then (if t166 ≤ (x5_3.length : Int) then ((some (x5_3.take (t166 : Int).toNat : List (S33))).bind fun y170 => (if y167.length + y170.length < 2199023255552 then ((some (y167 ++ y170 : List (S33))).bind fun y174 => (if 0 ≤ (wrap64 (t166 + 1)) then (if (wrap64 (t166 + 1)) ≤ (x5_3.length : Int) then ((some (x5_3.drop ((wrap64 (t166 + 1)) : Int).toNat : List (S33))).bind fun y177 => (if y174.length + y177.length < 2199023255552 then (spec_RosterFollow.l1 k3 l1 (y174 ++ y177) (wrap64 (x7_3 + 1))) else (none))) else (none)) else (none))) else (none))) else (none)) else (none))) else (spec_RosterFollow.l1 k3 l1 x5_3 (wrap64 (x7_3 + 1)))) = some r := H
             have A27 := Aside0.mk A270
             clear A270
             by_cases c28 : t166 ≥ 0
             ·
              rw [if_pos c28] at H
              have c28b0 : decide (0 ≤ t166) = true := decide_eq_true c28
              clear c28
              obtain ⟨y167, hy167⟩ : ∃ y_ : List (S33), y_ = (([] : List (S33))) := ⟨_, rfl⟩
              replace H : (if 0 ≤ t166 then (if t166 ≤ (x5_3.length : Int) then ((some (x5_3.take (t166 : Int).toNat : List (S33))).bind fun y170 => (if y167.length + y170.length < 2199023255552 then ((some (y167 ++ y170 : List (S33))).bind fun y174 => (if 0 ≤ (wrap64 (t166 + 1)) then (if (wrap64 (t166 + 1)) ≤ (x5_3.length : Int) then ((some (x5_3.drop ((wrap64 (t166 + 1)) : Int).toNat : List (S33))).bind fun y177 => (if y174.length + y177.length < 2199023255552 then (spec_RosterFollow.l1 k3 l1 (y174 ++ y177) (wrap64 (x7_3 + 1))) else (none))) else (none)) else (none))) else (none))) else (none)) else (none)) = some r := by first | (rw [hy167]; with_reducible exact H) | (have H2_ := (Option.bind_some _ _).symm.trans H; rw [hy167]; with_reducible exact H2_) | (have H2_ := (Option.bind_some _ _).symm.trans H; with_reducible exact H2_) | with_reducible exact H | (rw [hy167]; exact H) | exact H
              have Ny167 := Aside0.mk hy167
              clear hy167
              by_cases c29 : 0 ≤ t166
              ·
               rw [if_pos c29] at H
               have c29b0 := eq_true c29
               have c29b1 : decide (0 ≤ t166) = true := decide_eq_true c29
               clear c29
               by_cases c30 : t166 ≤ (x5_3.length : Int)
               ·
                rw [if_pos c30] at H
                have c30b0 := eq_true c30
                have c30b1 : decide (t166 ≤ (x5_3.length : Int)) = true := decide_eq_true c30
                clear c30
                obtain ⟨y170, hy170⟩ : ∃ y_ : List (S33), y_ = (x5_3.take (t166 : Int).toNat) := ⟨_, rfl⟩
                replace H : (if y167.length + y170.length < 2199023255552 then ((some (y167 ++ y170 : List (S33))).bind fun y174 => (if 0 ≤ (wrap64 (t166 + 1)) then (if (wrap64 (t166 + 1)) ≤ (x5_3.length : Int) then ((some (x5_3.drop ((wrap64 (t166 + 1)) : Int).toNat : List (S33))).bind fun y177 => (if y174.length + y177.length < 2199023255552 then (spec_RosterFollow.l1 k3 l1 (y174 ++ y177) (wrap64 (x7_3 + 1))) else (none))) else (none)) else (none))) else (none)) = some r := by first | (rw [hy170]; with_reducible exact H) | (have H2_ := (Option.bind_some _ _).symm.trans H; rw [hy170]; with_reducible exact H2_) | (have H2_ := (Option.bind_some _ _).symm.trans H; with_reducible exact H2_) | with_reducible exact H | (rw [hy170]; exact H) | exact H
                have Ny170 := Aside0.mk hy170
                clear hy170
                by_cases c31 : y167.length + y170.length < 2199023255552
                ·
                 rw [if_pos c31] at H
                 have LMc31 := Aside0.mk c31
                 clear c31
                 obtain ⟨y174, hy174⟩ : ∃ y_ : List (S33), y_ = (y167 ++ y170) := ⟨_, rfl⟩
                 replace H : (if 0 ≤ (wrap64 (t166 + 1)) then (if (wrap64 (t166 + 1)) ≤ (x5_3.length : Int) then ((some (x5_3.drop ((wrap64 (t166 + 1)) : Int).toNat : List (S33))).bind fun y177 => (if y174.length + y177.length < 2199023255552 then (spec_RosterFollow.l1 k3 l1 (y174 ++ y177) (wrap64 (x7_3 + 1))) else (none))) else (none)) else (none)) = some r := by first | (rw [hy174]; with_reducible exact H) | (have H2_ := (Option.bind_some _ _).symm.trans H; rw [hy174]; with_reducible exact H2_) | (have H2_ := (Option.bind_some _ _).symm.trans H; with_reducible exact H2_) | with_reducible exact H | (rw [hy174]; exact H) | exact H
                 have Ny174 := Aside0.mk hy174
                 clear hy174
                 obtain ⟨ji32, hji32⟩ : ∃ j_ : Int, (wrap64 (t166 + 1)) = j_ := ⟨_, rfl⟩
                 replace H : (if 0 ≤ (ji32) then (if (ji32) ≤ (x5_3.length : Int) then ((some (x5_3.drop ((ji32) : Int).toNat : List (S33))).bind fun y177 => (if y174.length + y177.length < 2199023255552 then (spec_RosterFollow.l1 k3 l1 (y174 ++ y177) (wrap64 (x7_3 + 1))) else (none))) else (none)) else (none)) = some r := by first | (rw [hji32] at H; exact H) | (simp only [hji32] at H ⊢; exact H)
                 (try rw [hji32] at A27)
                 have hji32w : (IntKind.i64.wrap (t166 + 1)) = ji32 := (i64_w _).trans hji32
                 by_cases c33 : 0 ≤ (ji32)
                 ·
                  rw [if_pos c33] at H
                  have c33b0 := eq_true c33
                  have c33b1 : decide (0 ≤ (ji32)) = true := decide_eq_true c33
                  clear c33
                  by_cases c34 : (ji32) ≤ (x5_3.length : Int)
                  ·
                   rw [if_pos c34] at H
                   have c34b0 := eq_true c34
                   have c34b1 : decide ((ji32) ≤ (x5_3.length : Int)) = true := decide_eq_true c34
                   clear c34
                   obtain ⟨y177, hy177⟩ : ∃ y_ : List (S33), y_ = (x5_3.drop ((ji32) : Int).toNat) := ⟨_, rfl⟩
                   replace H : (if y174.length + y177.length < 2199023255552 then (spec_RosterFollow.l1 k3 l1 (y174 ++ y177) (wrap64 (x7_3 + 1))) else (none)) = some r := by first | (rw [hy177]; with_reducible exact H) | (have H2_ := (Option.bind_some _ _).symm.trans H; rw [hy177]; with_reducible exact H2_) | (have H2_ := (Option.bind_some _ _).symm.trans H; with_reducible exact H2_) | with_reducible exact H | (rw [hy177]; exact H) | exact H
                   have Ny177 := Aside0.mk hy177
                   clear hy177
                   by_cases c35 : y174.length + y177.length < 2199023255552
                   ·
                    rw [if_pos c35] at H
                    have LMc35 := Aside0.mk c35
                    clear c35
                    obtain ⟨y181, hy181⟩ : ∃ y_ : List (S33), y_ = (y174 ++ y177) := ⟨_, rfl⟩
                    replace H : (spec_RosterFollow.l1 k3 l1 y181 (wrap64 (x7_3 + 1))) = some r := by first | (rw [hy181]; with_reducible exact H) | (have H2_ := (Option.bind_some _ _).symm.trans H; rw [hy181]; with_reducible exact H2_) | (have H2_ := (Option.bind_some _ _).symm.trans H; with_reducible exact H2_) | with_reducible exact H | (rw [hy181]; exact H) | exact H
                    have Ny181 := Aside0.mk hy181
                    clear hy181
                    have H' := Aside0.mk H
                    clear H
                    have p164 : 0 ≤ (x7_3 : Int) := of_decide_eq_true zb2_2
                    have q164 : x7_3 < (l1.length : Int) := of_decide_eq_true zb2_2
                    obtain ⟨ad164, e164, hx164_0, hx164_1, hx164_2, hx164_3, hx164_4⟩ := at_T33 HR1.out x7_3 p164 q164
                    (try rw [← Nbq25.out] at hx164_4)
                    (try rw [← Nbq25.out] at hw164_4)
                    cases e164
                    replace hx164_0 := (HB.out.cell (World.block_lt_of_cell? w _ hx164_0)).trans hx164_0
                    replace hx164_1 := (HB.out.cell (World.block_lt_of_cell? w _ hx164_1)).trans hx164_1
                    replace hx164_2 := (HB.out.cell (World.block_lt_of_cell? w _ hx164_2)).trans hx164_2
                    replace hx164_3 := (HB.out.cell (World.block_lt_of_cell? w _ hx164_3)).trans hx164_3
                    replace hx164_4 := (HB.out.cell (World.block_lt_of_cell? w _ hx164_4)).trans hx164_4
                    replace p164 := eq_true p164
                    replace q164 := eq_true q164
                    have p165 : 0 ≤ (x7_3 : Int) := of_decide_eq_true zb2_2
                    have q165 : x7_3 < (l1.length : Int) := of_decide_eq_true zb2_2
                    obtain ⟨ad165, e165, hx165_0, hx165_1, hx165_2, hx165_3, hx165_4⟩ := at_T33 HR1.out x7_3 p165 q165
                    (try rw [← Nbq25.out] at hx165_4)
                    (try rw [← Nbq25.out] at hw165_4)
                    obtain rfl : ad164 = ad165 := (by injection e165)
                    replace hx165_0 := (HB.out.cell (World.block_lt_of_cell? w _ hx165_0)).trans hx165_0
                    replace hx165_1 := (HB.out.cell (World.block_lt_of_cell? w _ hx165_1)).trans hx165_1
                    replace hx165_2 := (HB.out.cell (World.block_lt_of_cell? w _ hx165_2)).trans hx165_2
                    replace hx165_3 := (HB.out.cell (World.block_lt_of_cell? w _ hx165_3)).trans hx165_3
                    replace hx165_4 := (HB.out.cell (World.block_lt_of_cell? w _ hx165_4)).trans hx165_4
                    replace p165 := eq_true p165
                    replace q165 := eq_true q165
                    obtain ⟨Ao36, co36, eo36⟩ := Kd.R_slice HO_5.out
                    subst eo36
                    try go_wp2_with (first | ((with_reducible refine gate_callee (f := 13) rfl ?_); refine goesL_ (some 76) rfl rfl Try.func13 (by kernel_rfl) rfl #[.slice Ao36 x5_3.length co36, .string ((rd_T33 l1 x7_3).f0)] rfl zb4_2 ?_; (with_reducible refine (spec_l07At.calls k3 _ _ x5_3 ((rd_T33 l1 x7_3).f0) t166 _ ?side1 ?side2 A27.out).mono ?_); (case side1 => repeat (first | exact (Kd.R_reads' HO_5.out).2.2 | (with_reducible refine Kd.C_alloc ?_ _) | (with_reducible refine Kd.C_drewN ?_ _) | (with_reducible refine Kd.C_drew ?_))); (case side2 => exact (Kd.R_reads' HO_5.out).2.1); rintro e w' ⟨rfl, ⟨nd, rfl⟩⟩; refine ⟨_, rfl, ?_⟩))
                    (try (rw [drewN_self wr]; generalize hq_ : World.drewN wr _ = wr; have n0_ : Aside0 (Kd.R k33 33 wr w.heap.size (fun _ => True) (.slice Ao36 x5_3.length co36) x5_3) := ⟨by rw [← hq_]; exact zb3_2⟩; have n1_ : Aside0 (Below w.heap.size w wr) := ⟨by rw [← hq_]; exact zb0_2⟩; clear HO_5 HB hq_; have HO_5 := n0_; have HB := n1_; clear n0_ n1_))
                    have n0_ := Aside0.mk (Kd.R_drew HO_5.out)
                    have n1_ := Aside0.mk (below_drew1 HB.out)
                    clear HO_5
                    clear HB
                    have HO_5 := n0_
                    have HB := n1_
                    clear n0_ n1_
                    have q38 : (t166 : Int) ≤ ((x5_3.length : Int) : Int) := of_decide_eq_true zb2_2
                    obtain ⟨i038, hi038, _, hsz38, _⟩ := info_parts info33
                    have hroom38 : x5_3.length ≤ co36 := (Kd.R_reads' HO_5.out).2.1
                    have hC38 : Kd.C k33 _ Ao36 x5_3.length x5_3 := (Kd.R_reads' HO_5.out).2.2
                    have hcut38 := cut_to (P := Try.prog) 24 33 .i64 Try.underlying24 hi038 Ao36 x5_3.length co36 t166 (of_decide_eq_true zb2_2) q38 hroom38
                    have hr38 := Kd.C_take (m := (t166 : Int).toNat) hC38 (by omega)
                    have hy38 : y170.length = (t166 : Int).toNat := (by rw [Ny170.out, List.length_take]; omega)
                    rw [← Ny170.out] at hr38
                    rw [← hy38] at hcut38
                    have HR173 := Aside0.mk hr38
                    have HC173 := Aside0.mk (show y170.length ≤ co36 from by omega)
                    clear hr38 hC38 hroom38 hi038 hsz38
                    have KY38 := Aside0.mk hy38
                    clear hy38
                    have KL38 := Aside0.mk (show (t166 : Int).toNat ≤ x5_3.length from by omega)
                    replace q38 := eq_true q38
                    have q39 : ((ji32) : Int) ≤ ((x5_3.length : Int) : Int) := of_decide_eq_true zb2_2
                    obtain ⟨i039, hi039, _, hsz39, _⟩ := info_parts info33
                    have hroom39 : x5_3.length ≤ co36 := (Kd.R_reads' HO_5.out).2.1
                    have hC39 : Kd.C k33 _ Ao36 x5_3.length x5_3 := (Kd.R_reads' HO_5.out).2.2
                    have q039 : (0 : Int) ≤ ((ji32) : Int) := of_decide_eq_true zb2_2
                    have hcut39 := cut_from (P := Try.prog) 24 33 .i64 Try.underlying24 hi039 5 hsz39 Ao36 x5_3.length co36 (ji32) q039 q39
                    have hr39 := Kd.C_drop (m := ((ji32) : Int).toNat) (c := co36) hC39 (by omega) hroom39
                    obtain ⟨A39, hA39⟩ : ∃ A1, A1 = (if co36 = ((ji32) : Int).toNat then Ao36 else (Ao36 : Option Addr).map (·.add (((ji32) : Int).toNat * 5))) := ⟨_, rfl⟩
                    obtain ⟨c39, hc39⟩ : ∃ c1, c1 = co36 - ((ji32) : Int).toNat := ⟨_, rfl⟩
                    have hy39 : y177.length = x5_3.length - ((ji32) : Int).toNat := (by rw [Ny177.out, List.length_drop] <;> omega)
                    rw [show (x5_3).drop ((ji32) : Int).toNat = y177 from Ny177.out.symm] at hr39
                    replace hr39 : Kd.C k33 _ A39 y177.length y177 := (by rw [hA39]; exact hr39)
                    rw [← hy39, ← hA39, ← hc39] at hcut39
                    have HR180 := Aside0.mk hr39
                    have HC180 := Aside0.mk (show y177.length ≤ c39 from by rw [hy39, hc39]; exact Nat.sub_le_sub_right hroom39 _)
                    clear hr39 hC39 hroom39 hi039 hsz39 hc39
                    have KY39 := Aside0.mk hy39
                    have KA39 := Aside0.mk hA39
                    clear hy39 hA39
                    have KL39 := Aside0.mk (show ((ji32) : Int).toNat ≤ x5_3.length from by omega)
                    replace q39 := eq_true q39
                    refine start_ (n := 11) (S := fun w' => True) (ds := []) zm28_2 (by kernel_rfl) rfl rfl trivial (fun hHeld => ?_); refine with_tabW spec_RosterFollow.tab17 spec_RosterFollow.bits17 (fun HT_ HW_ => ?_)
                    generalize wr.drew = w37 at HO_5 HB HR173 HR180 hHeld ⊢
                    refine zp_2 1 (some 80) zm29_2 HT_ ?_
                    refine zp_2 2 (some 81) zm30_2 HT_ ?_
                    refine zp_2 3 (some 82) zm31_2 HT_ ?_
                    refine zp_2 5 (some 84) zm32_2 HT_ ?_
                    refine zp_2 6 (some 85) zm33_2 HT_ ?_
                    refine zp_2 7 (some 86) zm34_2 HT_ ?_
                    refine zp_2 8 (some 87) zm35_2 HT_ ?_
                    refine one_ (i := 0) (N := some 79) zm36_2 rfl rfl (one_of HT_.out (by kernel_rfl)) (by decide) (fun K hK => ?_)
                    refine Kd.R_lit_step k33 _ 33 ?hg (N := 79) ?hd (xs := ([] : List (S33))) (inner := []) (ok := fun _ => True) (okp := fun _ => True) ?hr ?hp (fun _ hk => hk) trivial (Below.refl _ _) (Nat.le_refl _) (by simp) ?_; (case hd => rfl); (case hg => rfl); (case hr => first | (go_simp; done) | (go_simp; rfl)); (case hp => exact (Reps.none _ _))
                    intro v168 w40 ho41 hb hg_ hnew_
                    clear hg_ hnew_
                    (first | rw [← Ny167.out] at ho41 | (simp only [Int.reduceToNat] at ho41; rw [← Ny167.out] at ho41))
                    have n0_ := Aside0.mk (Kd.R_elder' zb3_2 (Kd.R_base ho41) hb)
                    have n1_ := Aside0.mk (Kd.R_lower (Kd.R_new' ho41 (Kd.R_lt zb3_2)) (below_size zb0_2))
                    have n2_ := Aside0.mk (Kd.C_below (by repeat (first | (with_reducible exact HR173.out) | (with_reducible refine Kd.C_alloc ?_ _) | (with_reducible refine Kd.C_drewN ?_ _) | (with_reducible refine Kd.C_drew ?_) | exact HR173.out)) hb)
                    have n3_ := Aside0.mk (Kd.C_below (by repeat (first | (with_reducible exact HR180.out) | (with_reducible refine Kd.C_alloc ?_ _) | (with_reducible refine Kd.C_drewN ?_ _) | (with_reducible refine Kd.C_drew ?_) | exact HR180.out)) hb)
                    have n4_ := Aside0.mk (below_step zb0_2 hb)
                    clear HO_5
                    clear HR173
                    clear HR180
                    clear HB
                    have HO_5 := n0_
                    have HO169 := n1_
                    have HR173 := n2_
                    have HR180 := n3_
                    have HB := n4_
                    clear n0_ n1_ n2_ n3_ n4_
                    clear hb ho41
                    refine hK.out _ _ trivial (fun hHeld => ?_)
                    clear hK K
                    refine norm_ (a' := ?_) ?_ ?_
                    rotate_left
                    ·
                     show Act.put _ (some 79) _ = _
                     simp only [Act.put, List.setIfInBounds_toArray, List.set_cons_zero, List.set_cons_succ, i64_w, i32_w]
                     rfl
                    refine one_ (i := 4) (N := some 83) zm37_2 rfl rfl (one_of HT_.out (by kernel_rfl)) (by decide) (fun K hK => ?_)
                    refine Kd.R_append_rows_step k33 (w0 := w) w.heap.size (by rfl) (.tmp 79) (.tmp 82) 24 33 (.agg #[(.string ⟨#[]⟩), (.string ⟨#[]⟩), (.string ⟨#[]⟩), (.int .i64 0), (.bool false)]) 64 rfl Try.underlying24 info33 rfl (by decide) (by omega) v168 y167 y170 _ _ _ (fun k_ => some k_ ≠ (.slice Ao36 x5_3.length co36 : Value).ownBlock) (fun _ => False) rfl rfl ?aO ?aR (fun _ _ h => h) (fun _ h => h.elim) ?aF ?aB ?aS ?aL ?_
                    (case aR => repeat (first | exact (by repeat (first | (with_reducible exact HR173.out) | (with_reducible refine Kd.C_alloc ?_ _) | (with_reducible refine Kd.C_drewN ?_ _) | (with_reducible refine Kd.C_drew ?_) | exact HR173.out)) | (with_reducible refine Kd.C_alloc ?_ _) | (with_reducible refine Kd.C_drewN ?_ _) | (with_reducible refine Kd.C_drew ?_)))
                    (case aB => exact zb0_2)
                    (case aF => exact (fun k_ hk => Kd.fresh' (Kd.R_lt zb3_2) k_ hk))
                    (case aO => exact (by (with_reducible repeat (first | apply Kd.R_alloc | apply Kd.R_drewN | apply Kd.R_drew)); exact Kd.R_mono HO169.out (fun _ hk => hk.2)))
                    (case aS => exact (below_size zb0_2))
                    (case aL => have := LMc31.out; omega)
                    intro v175 w42 ho hb hg hat
                    rw [← Ny174.out] at ho
                    have n0_ := Aside0.mk (Kd.R_after (ok := (fun _ => True)) zb3_2 hg hat)
                    have n1_ := Aside0.mk (hb)
                    have n2_ := Aside0.mk ((show Kd.C k33 w42 Ao36 y170.length y170 from by rw [Ny170.out]; exact Kd.C_take (m := (t166 : Int).toNat) ((Kd.R_reads' (Kd.R_after (ok := (fun _ => True)) zb3_2 hg hat)).2.2) KL38.out))
                    have n3_ := Aside0.mk ((show Kd.C k33 w42 A39 y177.length y177 from by rw [Ny177.out, KA39.out]; exact Kd.C_drop (m := ((ji32) : Int).toNat) (c := co36) ((Kd.R_reads' (Kd.R_after (ok := (fun _ => True)) zb3_2 hg hat)).2.2) KL39.out ((Kd.R_reads' (Kd.R_after (ok := (fun _ => True)) zb3_2 hg hat)).2.1)))
                    have n4_ := Aside0.mk (ho)
                    clear HO_5
                    clear HB
                    clear HR173
                    clear HR180
                    clear HO169
                    have HO_5 := n0_
                    have HB := n1_
                    have HR173 := n2_
                    have HR180 := n3_
                    have HO176 := n4_
                    clear n0_ n1_ n2_ n3_ n4_
                    clear ho hb hg hat
                    refine hK.out _ _ trivial (fun hHeld => ?_)
                    clear hK K
                    refine norm_ (a' := ?_) ?_ ?_
                    rotate_left
                    ·
                     show Act.put _ (some 83) _ = _
                     simp only [Act.put, List.setIfInBounds_toArray, List.set_cons_zero, List.set_cons_succ, i64_w, i32_w]
                     rfl
                    refine one_ (i := 9) (N := some 88) zm38_2 rfl rfl (one_of HT_.out (by kernel_rfl)) (by decide) (fun K hK => ?_)
                    refine Kd.R_append_rows_step k33 (w0 := w) w.heap.size (by rfl) (.tmp 83) (.tmp 87) 24 33 (.agg #[(.string ⟨#[]⟩), (.string ⟨#[]⟩), (.string ⟨#[]⟩), (.int .i64 0), (.bool false)]) 64 rfl Try.underlying24 info33 rfl (by decide) (by omega) v175 y174 y177 _ _ _ (fun k_ => some k_ ≠ (.slice Ao36 x5_3.length co36 : Value).ownBlock) (fun _ => False) rfl rfl ?aO ?aR (fun _ _ h => h) (fun _ h => h.elim) ?aF ?aB ?aS ?aL ?_
                    (case aR => repeat (first | exact (by repeat (first | (with_reducible exact HR180.out) | (with_reducible refine Kd.C_alloc ?_ _) | (with_reducible refine Kd.C_drewN ?_ _) | (with_reducible refine Kd.C_drew ?_) | exact HR180.out)) | (with_reducible refine Kd.C_alloc ?_ _) | (with_reducible refine Kd.C_drewN ?_ _) | (with_reducible refine Kd.C_drew ?_)))
                    (case aB => exact zb0_2)
                    (case aF => exact (fun k_ hk => Kd.fresh' (Kd.R_lt zb3_2) k_ hk))
                    (case aO => exact (by (with_reducible repeat (first | apply Kd.R_alloc | apply Kd.R_drewN | apply Kd.R_drew)); exact HO176.out))
                    (case aS => exact (below_size zb0_2))
                    (case aL => have := LMc35.out; omega)
                    intro v182 w43 ho hb hg hat
                    rw [← Ny181.out] at ho
                    have n0_ := Aside0.mk (Kd.R_after (ok := (fun _ => True)) zb3_2 hg hat)
                    have n1_ := Aside0.mk (hb)
                    have n2_ := Aside0.mk ((show Kd.C k33 w43 Ao36 y170.length y170 from by rw [Ny170.out]; exact Kd.C_take (m := (t166 : Int).toNat) ((Kd.R_reads' (Kd.R_after (ok := (fun _ => True)) zb3_2 hg hat)).2.2) KL38.out))
                    have n3_ := Aside0.mk ((show Kd.C k33 w43 A39 y177.length y177 from by rw [Ny177.out, KA39.out]; exact Kd.C_drop (m := ((ji32) : Int).toNat) (c := co36) ((Kd.R_reads' (Kd.R_after (ok := (fun _ => True)) zb3_2 hg hat)).2.2) KL39.out ((Kd.R_reads' (Kd.R_after (ok := (fun _ => True)) zb3_2 hg hat)).2.1)))
                    have n4_ := Aside0.mk (ho)
                    clear HO_5
                    clear HB
                    clear HR173
                    clear HR180
                    clear HO176
                    have HO_5 := n0_
                    have HB := n1_
                    have HR173 := n2_
                    have HR180 := n3_
                    have HO183 := n4_
                    clear n0_ n1_ n2_ n3_ n4_
                    clear ho hb hg hat
                    refine hK.out _ _ trivial (fun hHeld => ?_)
                    clear hK K
                    refine norm_ (a' := ?_) ?_ ?_
                    rotate_left
                    ·
                     show Act.put _ (some 88) _ = _
                     simp only [Act.put, List.setIfInBounds_toArray, List.set_cons_zero, List.set_cons_succ, i64_w, i32_w]
                     rfl
                    refine zp_2 10 (some 5) zm39_2 HT_ ?_
                    refine done_ (done_of HT_.out (by kernel_rfl)) ?_
                    try go_wp2
                    go_roundg k3
                    case measure => have := HJ2.out; have := HK2.out; have := HK3.out; omega
                    case rel => exact ⟨(y181), (wrap64 (x7_3 + 1)), zb1_2, H', ⟨by have := HJ2.out; have := HK2.out; have := HK3.out; omega⟩, ⟨by (with_reducible repeat (first | apply Kd.R_alloc | apply Kd.R_drewN | apply Kd.R_drew)); exact Kd.R_mono HO183.out (fun _ hk => trivial)⟩, ⟨by repeat (first | (with_reducible first | exact HB.out | apply below_alloc | apply pw_below_drewN | apply below_drew1) | exact HB.out)⟩⟩
                   ·
                    rw [if_neg c35] at H
                    exact absurd H (by simp)
                  ·
                   rw [if_neg c34] at H
                   exact absurd H (by simp)
                 ·
                  rw [if_neg c33] at H
                  exact absurd H (by simp)
                ·
                 rw [if_neg c31] at H
                 exact absurd H (by simp)
               ·
                rw [if_neg c30] at H
                exact absurd H (by simp)
              ·
               rw [if_neg c29] at H
               exact absurd H (by simp)
             ·
              rw [if_neg c28] at H
              have c28b0 : decide (0 ≤ t166) = false := decide_eq_false c28
              clear c28
              have H' := Aside0.mk H
              clear H
              have p164 : 0 ≤ (x7_3 : Int) := of_decide_eq_true zb2_2
              have q164 : x7_3 < (l1.length : Int) := of_decide_eq_true zb2_2
              obtain ⟨ad164, e164, hx164_0, hx164_1, hx164_2, hx164_3, hx164_4⟩ := at_T33 HR1.out x7_3 p164 q164
              (try rw [← Nbq25.out] at hx164_4)
              (try rw [← Nbq25.out] at hw164_4)
              cases e164
              replace hx164_0 := (HB.out.cell (World.block_lt_of_cell? w _ hx164_0)).trans hx164_0
              replace hx164_1 := (HB.out.cell (World.block_lt_of_cell? w _ hx164_1)).trans hx164_1
              replace hx164_2 := (HB.out.cell (World.block_lt_of_cell? w _ hx164_2)).trans hx164_2
              replace hx164_3 := (HB.out.cell (World.block_lt_of_cell? w _ hx164_3)).trans hx164_3
              replace hx164_4 := (HB.out.cell (World.block_lt_of_cell? w _ hx164_4)).trans hx164_4
              replace p164 := eq_true p164
              replace q164 := eq_true q164
              have p165 : 0 ≤ (x7_3 : Int) := of_decide_eq_true zb2_2
              have q165 : x7_3 < (l1.length : Int) := of_decide_eq_true zb2_2
              obtain ⟨ad165, e165, hx165_0, hx165_1, hx165_2, hx165_3, hx165_4⟩ := at_T33 HR1.out x7_3 p165 q165
              (try rw [← Nbq25.out] at hx165_4)
              (try rw [← Nbq25.out] at hw165_4)
              obtain rfl : ad164 = ad165 := (by injection e165)
              replace hx165_0 := (HB.out.cell (World.block_lt_of_cell? w _ hx165_0)).trans hx165_0
              replace hx165_1 := (HB.out.cell (World.block_lt_of_cell? w _ hx165_1)).trans hx165_1
              replace hx165_2 := (HB.out.cell (World.block_lt_of_cell? w _ hx165_2)).trans hx165_2
              replace hx165_3 := (HB.out.cell (World.block_lt_of_cell? w _ hx165_3)).trans hx165_3
              replace hx165_4 := (HB.out.cell (World.block_lt_of_cell? w _ hx165_4)).trans hx165_4
              replace p165 := eq_true p165
              replace q165 := eq_true q165
              obtain ⟨Ao44, co44, eo44⟩ := Kd.R_slice HO_5.out
              subst eo44
              go_wp2_with (first | ((with_reducible refine gate_callee (f := 13) rfl ?_); refine goesL_ (some 76) rfl rfl Try.func13 (by kernel_rfl) rfl #[.slice Ao44 x5_3.length co44, .string ((rd_T33 l1 x7_3).f0)] rfl zb4_2 ?_; (with_reducible refine (spec_l07At.calls k3 _ _ x5_3 ((rd_T33 l1 x7_3).f0) t166 _ ?side1 ?side2 A27.out).mono ?_); (case side1 => repeat (first | exact (Kd.R_reads' HO_5.out).2.2 | (with_reducible refine Kd.C_alloc ?_ _) | (with_reducible refine Kd.C_drewN ?_ _) | (with_reducible refine Kd.C_drew ?_))); (case side2 => exact (Kd.R_reads' HO_5.out).2.1); rintro e w' ⟨rfl, ⟨nd, rfl⟩⟩; refine ⟨_, rfl, ?_⟩))
              go_roundg k3
              case measure => have := HJ2.out; have := HK2.out; have := HK3.out; omega
              case rel => exact ⟨(x5_3), (wrap64 (x7_3 + 1)), zb1_2, H', ⟨by have := HJ2.out; have := HK2.out; have := HK3.out; omega⟩, ⟨by (with_reducible repeat (first | apply Kd.R_alloc | apply Kd.R_drewN | apply Kd.R_drew)); exact HO_5.out⟩, ⟨by repeat (first | (with_reducible first | exact HB.out | apply below_alloc | apply pw_below_drewN | apply below_drew1) | exact HB.out)⟩⟩
            ·
             replace c26 := Bool.eq_false_iff.mpr c26
             subst c26
             have H1 : ((spec_l07Put.f k3 x5_3 ((rd_T33 l1 x7_3).f0) ((rd_T33 l1 x7_3).f1) ((rd_T33 l1 x7_3).f2) ((rd_T33 l1 x7_3).f3) (false)).bind fun t185 => (spec_RosterFollow.l1 k3 l1 t185 (wrap64 (x7_3 + 1)))) = some r := by rw [if_neg (show ¬ (false = true) by decide)] at H; exact H
             clear H
             have H := H1
             clear H1
             replace H := Option.bind_eq_some_iff.mp H
             obtain ⟨t185, A450, H⟩ := H
             replace H : (spec_RosterFollow.l1 k3 l1 t185 (wrap64 (x7_3 + 1))) = some r := H
             have A45 := Aside0.mk A450
             clear A450
             have H' := Aside0.mk H
             clear H
             have p164 : 0 ≤ (x7_3 : Int) := of_decide_eq_true zb2_2
             have q164 : x7_3 < (l1.length : Int) := of_decide_eq_true zb2_2
             obtain ⟨ad164, e164, hx164_0, hx164_1, hx164_2, hx164_3, hx164_4⟩ := at_T33 HR1.out x7_3 p164 q164
             (try rw [← Nbq25.out] at hx164_4)
             (try rw [← Nbq25.out] at hw164_4)
             cases e164
             replace hx164_0 := (HB.out.cell (World.block_lt_of_cell? w _ hx164_0)).trans hx164_0
             replace hx164_1 := (HB.out.cell (World.block_lt_of_cell? w _ hx164_1)).trans hx164_1
             replace hx164_2 := (HB.out.cell (World.block_lt_of_cell? w _ hx164_2)).trans hx164_2
             replace hx164_3 := (HB.out.cell (World.block_lt_of_cell? w _ hx164_3)).trans hx164_3
             replace hx164_4 := (HB.out.cell (World.block_lt_of_cell? w _ hx164_4)).trans hx164_4
             replace p164 := eq_true p164
             replace q164 := eq_true q164
             have p184 : 0 ≤ (x7_3 : Int) := of_decide_eq_true zb2_2
             have q184 : x7_3 < (l1.length : Int) := of_decide_eq_true zb2_2
             obtain ⟨ad184, e184, hx184_0, hx184_1, hx184_2, hx184_3, hx184_4⟩ := at_T33 HR1.out x7_3 p184 q184
             (try rw [← Nbq25.out] at hx184_4)
             (try rw [← Nbq25.out] at hw184_4)
             obtain rfl : ad164 = ad184 := (by injection e184)
             replace hx184_0 := (HB.out.cell (World.block_lt_of_cell? w _ hx184_0)).trans hx184_0
             replace hx184_1 := (HB.out.cell (World.block_lt_of_cell? w _ hx184_1)).trans hx184_1
             replace hx184_2 := (HB.out.cell (World.block_lt_of_cell? w _ hx184_2)).trans hx184_2
             replace hx184_3 := (HB.out.cell (World.block_lt_of_cell? w _ hx184_3)).trans hx184_3
             replace hx184_4 := (HB.out.cell (World.block_lt_of_cell? w _ hx184_4)).trans hx184_4
             replace p184 := eq_true p184
             replace q184 := eq_true q184
             obtain ⟨Ao46, co46, eo46⟩ := Kd.R_slice HO_5.out
             subst eo46
             go_wp2_with (first | ((with_reducible refine gate_callee (f := 12) rfl ?_); refine goesL_ (some 69) rfl rfl Try.func12 (by kernel_rfl) rfl #[.slice Ao46 x5_3.length co46, .agg #[.string ((rd_T33 l1 x7_3).f0), .string ((rd_T33 l1 x7_3).f1), .string ((rd_T33 l1 x7_3).f2), .int .i64 ((rd_T33 l1 x7_3).f3), .bool false]] rfl zb4_2 ?_; (with_reducible refine (spec_l07Put.calls k3 _ _ x5_3 ((rd_T33 l1 x7_3).f0) ((rd_T33 l1 x7_3).f1) ((rd_T33 l1 x7_3).f2) ((rd_T33 l1 x7_3).f3) false t185 _ ?side1 ?side2 A45.out).mono ?_); (case side1 => repeat (first | exact (Kd.R_reads' HO_5.out).2.2 | (with_reducible refine Kd.C_alloc ?_ _) | (with_reducible refine Kd.C_drewN ?_ _) | (with_reducible refine Kd.C_drew ?_))); (case side2 => exact (Kd.R_reads' HO_5.out).2.1); rintro e w47 ⟨v186, rfl, ho0, hb⟩; refine ⟨_, rfl, ?_⟩; have n0_ := Aside0.mk (Kd.R_elder' zb3_2 (Kd.R_base ho0) hb); have n1_ := Aside0.mk (Kd.R_lower (Kd.R_new' ho0 (Kd.R_lt zb3_2)) (below_size zb0_2)); have n2_ := Aside0.mk (below_step zb0_2 hb); clear HO_5; clear HB; have HO_5 := n0_; have HO187 := n1_; have HB := n2_; clear n0_ n1_ n2_; (try clear hb); (try clear hb2); (try clear hk); (try clear hi); (try clear ho0)))
             go_roundg k3
             case measure => have := HJ2.out; have := HK2.out; have := HK3.out; omega
             case rel => exact ⟨(t185), (wrap64 (x7_3 + 1)), zb1_2, H', ⟨by have := HJ2.out; have := HK2.out; have := HK3.out; omega⟩, ⟨by (with_reducible repeat (first | apply Kd.R_alloc | apply Kd.R_drewN | apply Kd.R_drew)); exact Kd.R_mono HO187.out (fun _ hk => trivial)⟩, ⟨by repeat (first | (with_reducible first | exact HB.out | apply below_alloc | apply pw_below_drewN | apply below_drew1) | exact HB.out)⟩⟩
           ·
            rw [if_neg c24] at H
            exact absurd H (by simp)
          ·
           rw [if_neg c23] at H
           have c23b0 : decide (x7_3 < (l1.length : Int)) = false := decide_eq_false c23
           clear c23
           obtain rfl := Option.some.inj H
           go_wp2
           go_ret
           exact ⟨_, by first | rfl | (simp [errW_none, errW_some] <;> rfl) | (simp [*, errW_none, errW_some] <;> rfl), by (with_reducible repeat (first | apply Kd.R_alloc | apply Kd.R_drewN | apply Kd.R_drew)); exact HO_5.out, by repeat (first | (with_reducible first | exact HB.out | apply below_alloc | apply pw_below_drewN | apply below_drew1) | exact HB.out)⟩
       ·
        rw [if_neg c21] at H
        exact absurd H (by simp)

end Go.Proofs.Ytgfmapilimlamaa.QFnExactRosterFollow
