-- laid by this session's own runner (wip/print2.py): not a printed file
import Derived.Test.YtfijkimkdccioaaDoorQFnDialbackx0
import Derived.Test.YtfijkimkdccioaaDoorQFnDialbackx8
import Derived.Test.YtfijkimkdccioaaDoorQFnDialbackx9
namespace Go.Proofs.YtfijkimkdccioaaDoor.QFnDialback
open Go.RowKit Go.Proofs.YtfijkimkdccioaaDoorW.PrintWords Go.Proofs.YtfijkimkdccioaaDoorW.PrintLast Go.Proofs.YtfijkimkdccioaaDoorW.PrintMore
attribute [local go_sem] max2_int min2_int max_two min_two max_three min_three max_four min_four   -- for this text's walks alone
set_option linter.unusedVariables false
set_option linter.unusedSimpArgs false

abbrev zm0_10 : Array Bool := pm 0 29
abbrev zm1_10 : Array Bool := pm 1 28
abbrev zm2_10 : Array Bool := #[I,O,I,O,O,O,O,O,O,O,O,O,O,O,O,O,O,O,O,O,O,O,O,O,O,O,O,O,O]
abbrev zm3_10 : Array Bool := pm 3 26
abbrev zm4_10 : Array Bool := pm 4 25
abbrev zm5_10 : Array Bool := pm 5 24
abbrev zm6_10 : Array Bool := pm 6 23
abbrev zm7_10 : Array Bool := pm 7 22
abbrev zm8_10 : Array Bool := pm 8 21
abbrev zm9_10 : Array Bool := pm 9 20
abbrev zm10_10 : Array Bool := pm 10 19
abbrev zm11_10 : Array Bool := pm 11 18
abbrev zm12_10 : Array Bool := pm 12 17
abbrev zm13_10 : Array Bool := #[I,I,I,I,I,I,I,I,I,I,I,I,O,I,O,O,O,O,O,O,O,O,O,O,O,O,O,O,O]
abbrev zm14_10 : Array Bool := #[I,I,I,I,I,I,I,I,I,I,I,I,O,I,I,O,O,O,O,O,O,O,O,O,O,O,O,O,O]
abbrev zm15_10 : Array Bool := #[I,I,I,I,I,I,I,I,I,I,I,I,O,I,I,O,O,O,I,O,O,O,O,O,O,O,O,O,O]
abbrev zm16_10 : Array Bool := #[I,I,I,I,I,I,I,I,I,I,I,I,I,I,I,O,O,O,I,O,O,O,O,O,O,O,O,O,O]
abbrev zm17_10 : Array Bool := #[I,I,I,I,I,I,I,I,I,I,I,I,I,I,I,I,O,O,I,O,O,O,O,O,O,O,O,O,O]
abbrev zm18_10 : Array Bool := #[I,I,I,I,I,I,I,I,I,I,I,I,I,I,I,I,I,O,I,O,O,O,O,O,O,O,O,O,O]
abbrev zm19_10 : Array Bool := pm 19 10
abbrev zm20_10 : Array Bool := pm 20 9
abbrev zm21_10 : Array Bool := pm 21 8
abbrev zm22_10 : Array Bool := pm 22 7
abbrev zm23_10 : Array Bool := pm 23 6
abbrev zm24_10 : Array Bool := pm 24 5
abbrev zm25_10 : Array Bool := pm 25 4
abbrev zm26_10 : Array Bool := pm 26 3
abbrev zm27_10 : Array Bool := pm 27 2
abbrev zm28_10 : Array Bool := pm 28 1
abbrev zm29_10 : Array Bool := pm 29 0
abbrev zm30_10 : Array Bool := pm 13 16
abbrev zm31_10 : Array Bool := pm 14 15
abbrev zm32_10 : Array Bool := pm 15 14
abbrev zm33_10 : Array Bool := pm 16 13
abbrev zm34_10 : Array Bool := pm 17 12
abbrev zm35_10 : Array Bool := pm 18 11
theorem bcq_10 {w : World} {g t : Nat} {cs : Array Value} {v : Value} (h : w.heap[g]? = some (.cells cs t (0, 0))) (j : Nat) (e : cs[j]? = some v := by rfl) : w.cell? ⟨g, j, none⟩ = some v := (blk_cell h j).trans e
theorem zb0_10 {P : Prop} (h : P := by repeat ((with_reducible (exact HB.out)))) : P := h
theorem zb1_10 {P : Prop} (h : P := by (try simp only [List.map_toArray, List.map_cons, List.map_nil]); rfl) : P := h
theorem zb2_10 {P : Prop} (h : P := by first | exact hmx.below HB.out | exact hmx.below (by repeat ((with_reducible first | exact HB.out | apply pw_below_drewN)))) : P := h
theorem zb3_10 {P : Prop} (h : P := by (with_reducible repeat ((refine blk_drewN ?_ _))); exact BK382.out) : P := h
theorem zb4_10 {P : Prop} (h : P := by repeat ((with_reducible (exact HB.out)))) : P := h
theorem zb5_10 {P : Prop} (h : P := by rfl) : P := h
theorem zb6_10 {P : Prop} (h : P := by (with_reducible assumption)) : P := h
theorem zk0_10 {P : Prop} (h : P := by exact ⟨(blk_cell BK386.out 0).trans rfl, (blk_cell BK386.out 1).trans rfl, (blk_cell BK386.out 2).trans rfl, (blk_cell BK386.out 3).trans rfl, (blk_cell BK382.out 0).trans rfl, (blk_cell BK382.out 1).trans rfl, (blk_cell BK382.out 2).trans rfl⟩) : P := h
theorem zk1_10 {P : Prop} (h : P := by exact ⟨(blk_cell BK386.out 0).trans rfl, (blk_cell BK386.out 1).trans rfl, (blk_cell BK386.out 2).trans rfl, (blk_cell BK386.out 3).trans rfl, (blk_cell BK382.out 0).trans rfl, (blk_cell BK382.out 1).trans rfl, (blk_cell BK382.out 2).trans rfl, ((HB.out.cell (World.block_lt_of_cell? w _ hw388_0)).trans hw388_0), ((HB.out.cell (World.block_lt_of_cell? w _ hw388_1)).trans hw388_1), ((HB.out.cell (World.block_lt_of_cell? w _ hw388_2)).trans hw388_2), ((HB.out.cell (World.block_lt_of_cell? w _ hw388_3)).trans hw388_3)⟩) : P := h
/-! ### impl_DialbackRight: function 18 -/
mutual
def impl_DialbackRight.j0 : Nat → Bool → ByteArray → Int → List (S43) → Option (Bool)
 | 0, _, _, _, _ => none
 | k + 1, x20, x383000, x383001, x383002 => if x20 = true then (some false) else (impl_DialbackRight.l0 k x383002 (x383002.length : Int) 0 x383000 x383001 x383002)
def impl_DialbackRight.l0 : Nat → List (S43) → Int → Int → ByteArray → Int → List (S43) → Option (Bool)
 | 0, _, _, _, _, _, _ => none
 | k + 1, x22, x23, x24, x383000, x383001, x383002 => if x24 < x23 then (if 0 ≤ x24 then (if x24 < (x22.length : Int) then ((impl_in.f ((rd_T43 x22 x24).f1) 1 (wrap64 (x383001 - 1))).bind fun t387 => (if t387 = true then (if x24 > 0 then (if 0 ≤ (wrap64 (x24 - 1)) then (if (wrap64 (x24 - 1)) < (x383002.length : Int) then (if ((rd_T43 x383002 (wrap64 (x24 - 1))).f1) ≥ ((rd_T43 x22 x24).f1) then (impl_DialbackRight.j2 k x22 x23 x24 true x383000 x383001 x383002 ((rd_T43 x22 x24).f0) ((rd_T43 x22 x24).f1) ((rd_T43 x22 x24).f2) ((rd_T43 x22 x24).f3)) else ((impl_isDomain.f k ((rd_T43 x22 x24).f0)).bind fun t389 => (impl_DialbackRight.j2 k x22 x23 x24 (!t389) x383000 x383001 x383002 ((rd_T43 x22 x24).f0) ((rd_T43 x22 x24).f1) ((rd_T43 x22 x24).f2) ((rd_T43 x22 x24).f3)))) else (none)) else (none)) else ((impl_isDomain.f k ((rd_T43 x22 x24).f0)).bind fun t390 => (impl_DialbackRight.j2 k x22 x23 x24 (!t390) x383000 x383001 x383002 ((rd_T43 x22 x24).f0) ((rd_T43 x22 x24).f1) ((rd_T43 x22 x24).f2) ((rd_T43 x22 x24).f3)))) else (impl_DialbackRight.j2 k x22 x23 x24 true x383000 x383001 x383002 ((rd_T43 x22 x24).f0) ((rd_T43 x22 x24).f1) ((rd_T43 x22 x24).f2) ((rd_T43 x22 x24).f3)))) else (none)) else (none)) else (some true)
def impl_DialbackRight.j2 : Nat → List (S43) → Int → Int → Bool → ByteArray → Int → List (S43) → ByteArray → Int → Int → ByteArray → Option (Bool)
 | 0, _, _, _, _, _, _, _, _, _, _, _ => none
 | k + 1, x22, x23, x24, x57, x383000, x383001, x383002, x387000, x387001, x387002, x387003 => if x57 = true then (some false) else ((impl_in.f x387002 0 3).bind fun t391 => (if t391 = true then (if (x387003.size : Int) > 64 then (some false) else (if ((x387003.toList == ([] : List UInt8)) != (x387002 == 0)) = true then (some false) else (impl_DialbackRight.l0 k x22 x23 (wrap64 (x24 + 1)) x383000 x383001 x383002))) else (some false)))
end
def impl_DialbackRight.f (k : Nat) (a0_0 : ByteArray) (a0_1 : Int) (l0_2 : List (S43)) : Option (Bool) := (impl_isDomain.f k a0_0).bind fun t383 => (if t383 = true then ((impl_isId.f a0_1).bind fun t384 => (if t384 = true then (impl_DialbackRight.j0 k (decide ((l0_2.length : Int) > 10)) a0_0 a0_1 l0_2) else (impl_DialbackRight.j0 k true a0_0 a0_1 l0_2))) else (impl_DialbackRight.j0 k true a0_0 a0_1 l0_2))
theorem impl_DialbackRight.mono_l : ∀ k, (∀ y0 y1 y2 y3, LeO (impl_DialbackRight.j0 k y0 y1 y2 y3) (impl_DialbackRight.j0 (k + 1) y0 y1 y2 y3)) ∧ (∀ y0 y1 y2 y3 y4 y5, LeO (impl_DialbackRight.l0 k y0 y1 y2 y3 y4 y5) (impl_DialbackRight.l0 (k + 1) y0 y1 y2 y3 y4 y5)) ∧ (∀ y0 y1 y2 y3 y4 y5 y6 y7 y8 y9 y10, LeO (impl_DialbackRight.j2 k y0 y1 y2 y3 y4 y5 y6 y7 y8 y9 y10) (impl_DialbackRight.j2 (k + 1) y0 y1 y2 y3 y4 y5 y6 y7 y8 y9 y10))
 | 0 => ⟨fun _ _ _ _ r h => by simp [impl_DialbackRight.j0] at h, fun _ _ _ _ _ _ r h => by simp [impl_DialbackRight.l0] at h, fun _ _ _ _ _ _ _ _ _ _ _ r h => by simp [impl_DialbackRight.j2] at h⟩
 | k + 1 => by
  obtain ⟨ih0, ih1, ih2⟩ := impl_DialbackRight.mono_l k
  refine ⟨?_, ?_, ?_⟩
  ·
   intro y0 y1 y2 y3
   unfold impl_DialbackRight.j0
   repeat' first
   | (with_reducible exact ih0 _ _ _ _)
   | (with_reducible exact ih1 _ _ _ _ _ _)
   | (with_reducible exact ih2 _ _ _ _ _ _ _ _ _ _ _)
   | (with_reducible exact impl_isDomain.mono _ _)
   | (with_reducible exact LeO.refl _)
   | (with_reducible exact LeO.none _)
   | (with_reducible refine LeO.ite ?_ ?_)
   | (with_reducible refine LeO.bind ?_ (fun _ => ?_))
   | exact ih0 _ _ _ _
   | exact ih1 _ _ _ _ _ _
   | exact ih2 _ _ _ _ _ _ _ _ _ _ _
   | exact impl_isDomain.mono _ _
   | exact LeO.none _
   | refine LeO.ite ?_ ?_
   | refine LeO.bind ?_ (fun _ => ?_)
  ·
   intro y0 y1 y2 y3 y4 y5
   unfold impl_DialbackRight.l0
   repeat' first
   | (with_reducible exact ih0 _ _ _ _)
   | (with_reducible exact ih1 _ _ _ _ _ _)
   | (with_reducible exact ih2 _ _ _ _ _ _ _ _ _ _ _)
   | (with_reducible exact impl_isDomain.mono _ _)
   | (with_reducible exact LeO.refl _)
   | (with_reducible exact LeO.none _)
   | (with_reducible refine LeO.ite ?_ ?_)
   | (with_reducible refine LeO.bind ?_ (fun _ => ?_))
   | exact ih0 _ _ _ _
   | exact ih1 _ _ _ _ _ _
   | exact ih2 _ _ _ _ _ _ _ _ _ _ _
   | exact impl_isDomain.mono _ _
   | exact LeO.none _
   | refine LeO.ite ?_ ?_
   | refine LeO.bind ?_ (fun _ => ?_)
  ·
   intro y0 y1 y2 y3 y4 y5 y6 y7 y8 y9 y10
   unfold impl_DialbackRight.j2
   repeat' first
   | (with_reducible exact ih0 _ _ _ _)
   | (with_reducible exact ih1 _ _ _ _ _ _)
   | (with_reducible exact ih2 _ _ _ _ _ _ _ _ _ _ _)
   | (with_reducible exact impl_isDomain.mono _ _)
   | (with_reducible exact LeO.refl _)
   | (with_reducible exact LeO.none _)
   | (with_reducible refine LeO.ite ?_ ?_)
   | (with_reducible refine LeO.bind ?_ (fun _ => ?_))
   | exact ih0 _ _ _ _
   | exact ih1 _ _ _ _ _ _
   | exact ih2 _ _ _ _ _ _ _ _ _ _ _
   | exact impl_isDomain.mono _ _
   | exact LeO.none _
   | refine LeO.ite ?_ ?_
   | refine LeO.bind ?_ (fun _ => ?_)
theorem impl_DialbackRight.mono : ∀ a0 a1 a2 k, LeO (impl_DialbackRight.f k a0 a1 a2) (impl_DialbackRight.f (k + 1) a0 a1 a2) := by
 intro a0 a1 a2 k
 obtain ⟨ih0, ih1, ih2⟩ := impl_DialbackRight.mono_l k
 unfold impl_DialbackRight.f
 repeat' first
   | (with_reducible exact ih0 _ _ _ _)
   | (with_reducible exact ih1 _ _ _ _ _ _)
   | (with_reducible exact ih2 _ _ _ _ _ _ _ _ _ _ _)
   | (with_reducible exact impl_isDomain.mono _ _)
   | (with_reducible exact LeO.refl _)
   | (with_reducible exact LeO.none _)
   | (with_reducible refine LeO.ite ?_ ?_)
   | (with_reducible refine LeO.bind ?_ (fun _ => ?_))
   | exact ih0 _ _ _ _
   | exact ih1 _ _ _ _ _ _
   | exact ih2 _ _ _ _ _ _ _ _ _ _ _
   | exact impl_isDomain.mono _ _
   | exact LeO.none _
   | refine LeO.ite ?_ ?_
   | refine LeO.bind ?_ (fun _ => ?_)
def impl_DialbackRight.T6 : Bool × List (List Nat × List Nat) := (true, [([], []), ([0], [0]), ([], []), ([2], [2]), ([3], [3]), ([1, 4], [1, 4]), ([5], [5]), ([6, 5], [6]), ([7], [7]), ([8, 7], [7, 8]), ([9, 7, 7], [7, 9]), ([10], [10]), ([11, 10], [10, 11]), ([10], [10]), ([13, 10], [10, 13]), ([12, 14, 10], [10, 12, 14]), ([15, 10], [10, 15]), ([16, 10], [10, 16]), ([10], [10]), ([18, 10], [10, 18]), ([17, 19, 10], [10, 17, 19]), ([10, 20, 7], [7, 10, 20]), ([7, 21], [7, 21]), ([22, 10], [22]), ([23], [23]), ([24, 23], [23, 24]), ([25, 23, 23], [23, 25]), ([26, 23], [23, 26]), ([23, 27], [23, 27])])
def impl_DialbackRight.B6 : List Nat := [0, 1, 0, 4, 12, 31, 63, 127, 255, 511, 1023, 2047, 4095, 2047, 10239, 32767, 65535, 131071, 2047, 264191, 1048575, 2097151, 4194303, 8388607, 16777215, 33554431, 67108863, 134217727, 268435455]
theorem impl_DialbackRight.tab6 : rtab .any (opsOf Tryd.f18 6) = impl_DialbackRight.T6 := by kernel_rfl
theorem impl_DialbackRight.bits6 : waitsOk impl_DialbackRight.T6.2 impl_DialbackRight.B6 = true := by kernel_rfl
set_option maxHeartbeats 8000000 in
set_option maxRecDepth 100000 in
theorem impl_DialbackRight.calls (k : Nat) (a0_0 : ByteArray) (a0_1 : Int) (A0_2 : Option Addr) (c0_2 : Nat) (l0_2 : List (S43)) (r : Bool) (w : World) (hr0_2 : Kd.C k43 w A0_2 l0_2.length l0_2) (hc0_2 : l0_2.length ≤ c0_2) (h : impl_DialbackRight.f k a0_0 a0_1 l0_2 = some r) (hmx : MaxIs w) :
  Calls Tryd.prog 18 #[.agg #[.string a0_0, .int .i64 a0_1, .slice A0_2 l0_2.length c0_2]] w fun e w' => e = .returned (.bool r) ∧ Below w.heap.size w w' := by
 have hu25 := Tryd.underlying25
 have hu43 := Tryd.underlying43
 have HR0_2 := Aside0.mk hr0_2
 have HC0_2 := Aside0.mk hc0_2
 clear hr0_2 hc0_2
 have HB := Aside0.mk (Below.refl w.heap.size w)
 have H : ((impl_isDomain.f k a0_0).bind fun t383 => (if t383 = true then ((impl_isId.f a0_1).bind fun t384 => (if t384 = true then (impl_DialbackRight.j0 k (decide ((l0_2.length : Int) > 10)) a0_0 a0_1 l0_2) else (impl_DialbackRight.j0 k true a0_0 a0_1 l0_2))) else (impl_DialbackRight.j0 k true a0_0 a0_1 l0_2))) = some r := h
 clear h
 have HC2 := Aside0.mk H
 clear H
 go_enter Tryd.func18, Tryd.ntmps18
 go_upto_region 1 with (((with_reducible refine gate_dst (N := 1) rfl ?_); (try (refine gate_guard (by rfl) ?_; dsimp only)); refine box_event ?hg (N := 1) ?hd (cs := #[.string a0_0, .int .i64 a0_1, .slice A0_2 l0_2.length c0_2]) (t := 25) ?hr ?_; (case hd => rfl); (case hg => rfl); (case hr => (go_simp; done)); intro gb382 hg w3 hbox hb; have BK382 := Aside0.mk (hbox); have GW382 := Aside0.mk ((by rw [hg]; exact (below_size zb0_10) : w.heap.size ≤ gb382)); have GE382 := Aside0.mk ((by rw [hg]; exact (below_size zb0_10) : w.heap.size ≤ gb382)); replace HB := Aside0.mk (below_step zb0_10 hb); clear hb hbox hg))
 go_cut [20] (fun v20 wc => ∃ (kq : Nat) (x20_1 : Bool), v20 = .bool x20_1 ∧ Aside0 (impl_DialbackRight.j0 kq x20_1 a0_0 a0_1 l0_2 = some r) ∧ Aside0 (kq ≤ k) ∧ Aside0 (wc.heap[gb382]? = some (.cells #[.string a0_0, .int .i64 a0_1, (.slice A0_2 l0_2.length c0_2)] 25 (0, 0))) ∧ Aside0 (Below w.heap.size w wc))
 case first =>
  have H := HC2.out
  clear HC2
  replace H := Option.bind_eq_some_iff.mp H
  obtain ⟨t383, A40, H⟩ := H
  (try dsimp -simprocs only at H)
  have A4 := Aside0.mk A40
  clear A40
  obtain ⟨z0, z1, z2, z3, z4, z5⟩ := bz3 BK382.out
  by_cases c5 : t383 = true
  rotate_left
  ·
   replace c5 := Bool.eq_false_iff.mpr c5
   subst c5
   rw [if_neg (show ¬ (false = true) by decide)] at H
   have H' := Aside0.mk H
   clear H
   go_wp2_with (((with_reducible refine gate_callee (f := 23) rfl ?_); refine goesL_ (some 7) rfl rfl Tryd.func23 (by kernel_rfl) rfl #[.string a0_0] rfl zb1_10 ?_; (with_reducible refine (impl_isDomain.calls k a0_0 false _ A4.out zb2_10).mono ?_); rintro e w15 ⟨rfl, hb⟩; refine ⟨_, rfl, ?_⟩; replace BK382 := bkb BK382 hb; replace HB := Aside0.mk (below_step zb4_10 hb); (try clear hb)))
   go_meet
   case rel => exact ⟨_, (true), zb5_10, H', ⟨by omega⟩, ⟨by exact BK382.out⟩, ⟨by repeat ((with_reducible (exact HB.out)))⟩⟩
  subst c5
  rw [if_pos rfl] at H
  replace H := Option.bind_eq_some_iff.mp H
  obtain ⟨t384, A60, H⟩ := H
  (try dsimp -simprocs only at H)
  have A6 := Aside0.mk A60
  clear A60
  by_cases c7 : t384 = true
  ·
   subst c7
   rw [if_pos rfl] at H
   have H' := Aside0.mk H
   clear H
   go_wp2_with (first | ((with_reducible refine gate_callee (f := 23) rfl ?_); refine goesL_ (some 7) rfl rfl Tryd.func23 (by kernel_rfl) rfl #[.string a0_0] rfl zb1_10 ?_; (with_reducible refine (impl_isDomain.calls k a0_0 true _ A4.out zb2_10).mono ?_); rintro e w9 ⟨rfl, hb⟩; refine ⟨_, rfl, ?_⟩; replace BK382 := bkb BK382 hb; replace HB := Aside0.mk (below_step zb4_10 hb); (try clear hb); obtain ⟨z0, z1, z2, z3, z4, z5⟩ := bz3 BK382.out) | (go_at_call 34; (with_reducible refine (impl_isId.calls a0_1 true _ A6.out).mono ?_); rintro e w' ⟨rfl, ⟨nd, rfl⟩⟩))
   go_meet
   case rel => exact ⟨_, (decide ((l0_2.length : Int) > 10)), zb5_10, H', ⟨by omega⟩, ⟨by (with_reducible repeat ((refine blk_drewN ?_ _))); exact BK382.out⟩, ⟨by repeat ((with_reducible first | exact HB.out | apply pw_below_drewN))⟩⟩
  replace c7 := Bool.eq_false_iff.mpr c7
  subst c7
  rw [if_neg (show ¬ (false = true) by decide)] at H
  have H' := Aside0.mk H
  clear H
  go_wp2_with (first | ((with_reducible refine gate_callee (f := 23) rfl ?_); refine goesL_ (some 7) rfl rfl Tryd.func23 (by kernel_rfl) rfl #[.string a0_0] rfl zb1_10 ?_; (with_reducible refine (impl_isDomain.calls k a0_0 true _ A4.out zb2_10).mono ?_); rintro e w12 ⟨rfl, hb⟩; refine ⟨_, rfl, ?_⟩; replace BK382 := bkb BK382 hb; replace HB := Aside0.mk (below_step zb4_10 hb); (try clear hb); obtain ⟨z0, z1, z2, z3, z4, z5⟩ := bz3 BK382.out) | (go_at_call 34; (with_reducible refine (impl_isId.calls a0_1 false _ A6.out).mono ?_); rintro e w' ⟨rfl, ⟨nd, rfl⟩⟩))
  go_meet
  case rel => exact ⟨_, (true), zb5_10, H', ⟨by omega⟩, ⟨by (with_reducible repeat ((refine blk_drewN ?_ _))); exact BK382.out⟩, ⟨by repeat ((with_reducible first | exact HB.out | apply pw_below_drewN))⟩⟩
 case rest =>
  clear HC2
  obtain ⟨kq, x20_1, rfl, HA, HJ1, BK382, HB⟩ := hcut
  cases kq with
  | zero => exact absurd HA.out (by simp [impl_DialbackRight.j0])
  | succ kj1 =>
   have H := HA.out
   clear HA
   simp only [impl_DialbackRight.j0] at H
   by_cases c16 : x20_1 = true
   · subst c16; rw [if_pos rfl] at H; obtain rfl := Option.some.inj H; go_wp2; go_ret; exact ⟨by rfl, by repeat ((with_reducible (exact HB.out)))⟩
   replace c16 := Bool.eq_false_iff.mpr c16
   subst c16
   rw [if_neg (show ¬ (false = true) by decide)] at H
   have H' := Aside0.mk H
   clear H
   obtain ⟨z0, z1, z2, z3, z4, z5⟩ := bz3 BK382.out
   go_wp2
   go_loopg [24] kj1 (fun kq v24 w' => ∃ (x24_2 : Int), v24 = .int .i64 x24_2 ∧ Aside0 (impl_DialbackRight.l0 kq l0_2 (l0_2.length : Int) x24_2 a0_0 a0_1 l0_2 = some r) ∧ Aside0 (kq ≤ kj1) ∧ Aside0 (w'.heap[gb382]? = some (.cells #[.string a0_0, .int .i64 a0_1, (.slice A0_2 l0_2.length c0_2)] 25 (0, 0))) ∧ Aside0 (Below w.heap.size w w'))
   case atStart => exact ⟨(0), zb5_10, H', ⟨Nat.le_refl _⟩, ⟨by exact BK382.out⟩, ⟨by repeat ((with_reducible (exact HB.out)))⟩⟩
   case round =>
    clear H'
    obtain ⟨x24_2, rfl, HA, HK2, BK382, HB⟩ := hrel
    cases gk with
    | zero => exact absurd HA.out (by simp [impl_DialbackRight.l0])
    | succ k2 =>
     have H := HA.out
     clear HA
     simp only [impl_DialbackRight.l0] at H
     by_cases c18 : x24_2 < (l0_2.length : Int)
     rotate_left
     · rw [if_neg c18] at H; have c18b0 := decide_eq_false c18; clear c18; obtain rfl := Option.some.inj H; go_wp2; go_ret; exact ⟨by rfl, by repeat ((with_reducible (exact HB.out)))⟩
     rw [if_pos c18] at H
     have c18b0 := decide_eq_true c18
     clear c18
     by_cases c19 : 0 ≤ x24_2
     rotate_left
     · rw [if_neg c19] at H; exact absurd H (by simp)
     rw [if_pos c19] at H
     have c19b0 := decide_eq_true c19
     clear c19
     by_cases c20 : x24_2 < (l0_2.length : Int)
     rotate_left
     · rw [if_neg c20] at H; exact absurd H (by simp)
     rw [if_pos c20] at H
     have c20b0 := decide_eq_true c20
     clear c20
     have HC21 := Aside0.mk H
     clear H
     have p385 : 0 ≤ (x24_2 : Int) := of_decide_eq_true zb6_10
     have q385 : x24_2 < (l0_2.length : Int) := of_decide_eq_true zb6_10
     obtain ⟨ad385, e385, hx385_0, hx385_1, hx385_2, hx385_3⟩ := at_T43 HR0_2.out x24_2 p385 q385
     cases e385
     replace hx385_0 := (HB.out.cell (World.block_lt_of_cell? w _ hx385_0)).trans hx385_0
     replace hx385_1 := (HB.out.cell (World.block_lt_of_cell? w _ hx385_1)).trans hx385_1
     replace hx385_2 := (HB.out.cell (World.block_lt_of_cell? w _ hx385_2)).trans hx385_2
     replace hx385_3 := (HB.out.cell (World.block_lt_of_cell? w _ hx385_3)).trans hx385_3
     replace p385 := eq_true p385
     replace q385 := eq_true q385
     go_upto_region 6 with (((with_reducible refine gate_dst (N := 4) rfl ?_); (try (refine gate_guard (by rfl) ?_; dsimp only)); refine box_event ?hg (N := 4) ?hd (cs := #[.string (⟨#[]⟩ : ByteArray), .int .i64 0, .int .i64 0, .string (⟨#[]⟩ : ByteArray)]) (t := 43) ?hr ?_; (case hd => rfl); (case hg => rfl); (case hr => (go_simp; done)); intro gb386 hg w22 hbox hb; have BK386 := Aside0.mk (hbox); have GW386 := Aside0.mk ((by rw [hg]; exact (below_size zb4_10) : w.heap.size ≤ gb386)); have GE386 := Aside0.mk ((by rw [hg]; exact (below_size zb4_10) : w.heap.size ≤ gb386)); replace HB := Aside0.mk (below_step zb4_10 hb); have NB382_386 := Aside0.mk ((by rw [hg]; exact Nat.ne_of_lt (blk_lt (g := gb382) (o := .cells #[.string a0_0, .int .i64 a0_1, .slice (some ad385) l0_2.length c0_2] 25 (0, 0)) zb3_10) : gb382 ≠ gb386)); have NB386_382 := Aside0.mk ((by rw [hg]; exact Nat.ne_of_gt (blk_lt (g := gb382) (o := .cells #[.string a0_0, .int .i64 a0_1, .slice (some ad385) l0_2.length c0_2] 25 (0, 0)) zb3_10) : gb386 ≠ gb382)); replace BK382 := bkb BK382 hb; clear hb hbox hg; have hnb23 := NB386_382.out; have hnc23 := NB382_386.out; obtain ⟨z0, z1, z2, z3, z4, z5, z6, z7⟩ := bz4 BK386.out))
     go_cut [57] (fun v57 wc => ∃ (kq : Nat) (x57_20 : Bool), v57 = .bool x57_20 ∧ Aside0 (impl_DialbackRight.j2 kq l0_2 (l0_2.length : Int) x24_2 x57_20 a0_0 a0_1 l0_2 ((rd_T43 l0_2 x24_2).f0) ((rd_T43 l0_2 x24_2).f1) ((rd_T43 l0_2 x24_2).f2) ((rd_T43 l0_2 x24_2).f3) = some r) ∧ Aside0 (kq ≤ k2) ∧ Aside0 (wc.heap[gb382]? = some (.cells #[.string a0_0, .int .i64 a0_1, (.slice (some ad385) l0_2.length c0_2)] 25 (0, 0))) ∧ Aside0 (wc.heap[gb386]? = some (.cells #[.string ((rd_T43 l0_2 x24_2).f0), .int .i64 ((rd_T43 l0_2 x24_2).f1), .int .i64 ((rd_T43 l0_2 x24_2).f2), .string ((rd_T43 l0_2 x24_2).f3)] 43 (0, 0))) ∧ Aside0 (Below w.heap.size w wc))
     case first =>
      have H := HC21.out
      clear HC21
      replace H := Option.bind_eq_some_iff.mp H
      obtain ⟨t387, A250, H⟩ := H
      (try dsimp -simprocs only at H)
      have A25 := Aside0.mk A250
      clear A250
      by_cases c26 : t387 = true
      rotate_left
      ·
       replace c26 := Bool.eq_false_iff.mpr c26
       subst c26
       rw [if_neg (show ¬ (false = true) by decide)] at H
       have H' := Aside0.mk H
       clear H
       try go_wp2
       obtain ⟨w42, hq_⟩ : ∃ W_, W_ = ((((w22.setCell ⟨gb386, 0, none⟩ (.string ((rd_T43 l0_2 x24_2).f0))).setCell ⟨gb386, 1, none⟩ (.int .i64 ((rd_T43 l0_2 x24_2).f1))).setCell ⟨gb386, 2, none⟩ (.int .i64 ((rd_T43 l0_2 x24_2).f2))).setCell ⟨gb386, 3, none⟩ (.string ((rd_T43 l0_2 x24_2).f3))) := ⟨_, rfl⟩
       rw [← hq_]
       have n0_ : Aside0 (w42.heap[gb382]? = some (.cells #[.string a0_0, .int .i64 a0_1, .slice (some ad385) l0_2.length c0_2] 25 (0, 0))) := ⟨by rw [hq_]; refine blk_far ?_ NB382_386.out _; refine blk_far ?_ NB382_386.out _; refine blk_far ?_ NB382_386.out _; refine blk_far ?_ NB382_386.out _; exact BK382.out⟩
       have n1_ : Aside0 (w42.heap[gb386]? = some (.cells #[.string ((rd_T43 l0_2 x24_2).f0), .int .i64 ((rd_T43 l0_2 x24_2).f1), .int .i64 ((rd_T43 l0_2 x24_2).f2), .string ((rd_T43 l0_2 x24_2).f3)] 43 (0, 0))) := ⟨by rw [hq_]; apply bp4; exact BK386.out⟩
       have n2_ : Aside0 (Below w.heap.size w w42) := ⟨by rw [hq_]; repeat ((with_reducible first | exact HB.out | refine below_set ?_ GE386.out))⟩
       (try clear BK382)
       (try clear BK386)
       (try clear HB)
       clear hq_
       have BK382 := n0_
       have BK386 := n1_
       have HB := n2_
       clear n0_ n1_ n2_
       replace BK382 := Aside0.mk (blk_drew BK382.out)
       replace BK386 := Aside0.mk (blk_drew BK386.out)
       replace HB := Aside0.mk (below_drew1 HB.out)
       refine start_ (n := 29) (S := fun w' => w'.cell? ⟨gb386, 0, none⟩ = some (.string ((rd_T43 l0_2 x24_2).f0)) ∧ w'.cell? ⟨gb386, 1, none⟩ = some (.int .i64 ((rd_T43 l0_2 x24_2).f1)) ∧ w'.cell? ⟨gb386, 2, none⟩ = some (.int .i64 ((rd_T43 l0_2 x24_2).f2)) ∧ w'.cell? ⟨gb386, 3, none⟩ = some (.string ((rd_T43 l0_2 x24_2).f3)) ∧ w'.cell? ⟨gb382, 0, none⟩ = some (.string a0_0) ∧ w'.cell? ⟨gb382, 1, none⟩ = some (.int .i64 a0_1) ∧ w'.cell? ⟨gb382, 2, none⟩ = some (.slice (some ad385) l0_2.length c0_2)) (ds := []) zm0_10 (by kernel_rfl) rfl rfl ⟨(blk_cell BK386.out 0).trans rfl, (blk_cell BK386.out 1).trans rfl, (blk_cell BK386.out 2).trans rfl, (blk_cell BK386.out 3).trans rfl, (blk_cell BK382.out 0).trans rfl, (blk_cell BK382.out 1).trans rfl, (blk_cell BK382.out 2).trans rfl⟩ (fun hHeld => ?_); refine with_tabW impl_DialbackRight.tab6 impl_DialbackRight.bits6 (fun HT_ HW_ => ?_)
       generalize w42.drew = w43 at BK382 BK386 HB hHeld ⊢
       refine zp 0 (some 29) zm1_10 HT_ ?_
       refine zp 2 (some 31) zm2_10 HT_ ?_
       refine zt 1 (some 30) zm3_10 HT_ HW_ hHeld ?_
       refine zt 3 (some 32) zm4_10 HT_ HW_ hHeld ?_
       refine zp 4 (some 33) zm5_10 HT_ ?_
       refine one_ (i := 5) (N := some 34) zm6_10 rfl rfl (one_of HT_.out (by kernel_rfl)) (by decide) (fun K hK => ?_)
       refine goes_ Tryd.func27 (by kernel_rfl) rfl #[.int .i64 ((rd_T43 l0_2 x24_2).f1), .int .i64 1, .int .i64 (wrap64 (a0_1 - 1))] (by rfl) rfl rfl zb1_10 ?_
       with_reducible refine (impl_in.calls ((rd_T43 l0_2 x24_2).f1) 1 (wrap64 (a0_1 - 1)) false _ A25.out).mono ?_
       rintro e w' ⟨rfl, ⟨nd, rfl⟩⟩
       refine ⟨_, rfl, ?_⟩
       refine hK.out _ _ zk0_10 (fun hHeld => ?_)
       clear hK K
       refine zn (some 34) ?_
       refine zp 6 (some 35) zm7_10 HT_ ?_
       refine zp 7 (some 36) zm8_10 HT_ ?_
       refine zu 8 (some 37) zm9_10 HT_ ?_
       refine zu 9 (some 38) zm10_10 HT_ ?_
       refine zu 10 (some 39) zm11_10 HT_ ?_
       refine zu 11 (some 40) zm12_10 HT_ ?_
       refine zu 12 (some 41) zm30_10 HT_ ?_
       refine zu 13 (some 42) zm31_10 HT_ ?_
       refine zu 14 (some 43) zm32_10 HT_ ?_
       refine zu 15 (some 44) zm33_10 HT_ ?_
       refine zu 16 (some 45) zm34_10 HT_ ?_
       refine zu 17 (some 46) zm35_10 HT_ ?_
       refine zu 18 (some 47) zm19_10 HT_ ?_
       refine zu 19 (some 48) zm20_10 HT_ ?_
       refine zu 20 (some 49) zm21_10 HT_ ?_
       refine zu 21 (some 50) zm22_10 HT_ ?_
       refine zp 22 (some 51) zm23_10 HT_ ?_
       refine zp 23 (some 52) zm24_10 HT_ ?_
       refine zu 24 (some 53) zm25_10 HT_ ?_
       refine zu 25 (some 54) zm26_10 HT_ ?_
       refine zu 26 (some 55) zm27_10 HT_ ?_
       refine zu 27 (some 56) zm28_10 HT_ ?_
       refine zp 28 (some 57) zm29_10 HT_ ?_
       refine done_ (done_of HT_.out (by kernel_rfl)) ?_
       try go_wp2
       go_meet
       case rel => exact ⟨_, (true), zb5_10, H', ⟨by have := HJ1.out; have := HK2.out; omega⟩, ⟨by (with_reducible repeat ((refine blk_drewN ?_ _))); exact BK382.out⟩, ⟨by (with_reducible repeat ((refine blk_drewN ?_ _))); exact BK386.out⟩, ⟨by repeat ((with_reducible first | exact HB.out | apply pw_below_drewN))⟩⟩
      subst c26
      rw [if_pos rfl] at H
      by_cases c27 : x24_2 > 0
      rotate_left
      ·
       rw [if_neg c27] at H
       have c27b0 : decide (0 < x24_2) = false := decide_eq_false c27
       clear c27
       replace H := Option.bind_eq_some_iff.mp H
       obtain ⟨t390, A380, H⟩ := H
       (try dsimp -simprocs only at H)
       have A38 := Aside0.mk A380
       clear A380
       have H' := Aside0.mk H
       clear H
       try go_wp2
       obtain ⟨w39, hq_⟩ : ∃ W_, W_ = ((((w22.setCell ⟨gb386, 0, none⟩ (.string ((rd_T43 l0_2 x24_2).f0))).setCell ⟨gb386, 1, none⟩ (.int .i64 ((rd_T43 l0_2 x24_2).f1))).setCell ⟨gb386, 2, none⟩ (.int .i64 ((rd_T43 l0_2 x24_2).f2))).setCell ⟨gb386, 3, none⟩ (.string ((rd_T43 l0_2 x24_2).f3))) := ⟨_, rfl⟩
       rw [← hq_]
       have n0_ : Aside0 (w39.heap[gb382]? = some (.cells #[.string a0_0, .int .i64 a0_1, .slice (some ad385) l0_2.length c0_2] 25 (0, 0))) := ⟨by rw [hq_]; refine blk_far ?_ NB382_386.out _; refine blk_far ?_ NB382_386.out _; refine blk_far ?_ NB382_386.out _; refine blk_far ?_ NB382_386.out _; exact BK382.out⟩
       have n1_ : Aside0 (w39.heap[gb386]? = some (.cells #[.string ((rd_T43 l0_2 x24_2).f0), .int .i64 ((rd_T43 l0_2 x24_2).f1), .int .i64 ((rd_T43 l0_2 x24_2).f2), .string ((rd_T43 l0_2 x24_2).f3)] 43 (0, 0))) := ⟨by rw [hq_]; apply bp4; exact BK386.out⟩
       have n2_ : Aside0 (Below w.heap.size w w39) := ⟨by rw [hq_]; repeat ((with_reducible first | exact HB.out | refine below_set ?_ GE386.out))⟩
       (try clear BK382)
       (try clear BK386)
       (try clear HB)
       clear hq_
       have BK382 := n0_
       have BK386 := n1_
       have HB := n2_
       clear n0_ n1_ n2_
       replace BK382 := Aside0.mk (blk_drew BK382.out)
       replace BK386 := Aside0.mk (blk_drew BK386.out)
       replace HB := Aside0.mk (below_drew1 HB.out)
       refine start_ (n := 29) (S := fun w' => w'.cell? ⟨gb386, 0, none⟩ = some (.string ((rd_T43 l0_2 x24_2).f0)) ∧ w'.cell? ⟨gb386, 1, none⟩ = some (.int .i64 ((rd_T43 l0_2 x24_2).f1)) ∧ w'.cell? ⟨gb386, 2, none⟩ = some (.int .i64 ((rd_T43 l0_2 x24_2).f2)) ∧ w'.cell? ⟨gb386, 3, none⟩ = some (.string ((rd_T43 l0_2 x24_2).f3)) ∧ w'.cell? ⟨gb382, 0, none⟩ = some (.string a0_0) ∧ w'.cell? ⟨gb382, 1, none⟩ = some (.int .i64 a0_1) ∧ w'.cell? ⟨gb382, 2, none⟩ = some (.slice (some ad385) l0_2.length c0_2)) (ds := []) zm0_10 (by kernel_rfl) rfl rfl ⟨(blk_cell BK386.out 0).trans rfl, (blk_cell BK386.out 1).trans rfl, (blk_cell BK386.out 2).trans rfl, (blk_cell BK386.out 3).trans rfl, (blk_cell BK382.out 0).trans rfl, (blk_cell BK382.out 1).trans rfl, (blk_cell BK382.out 2).trans rfl⟩ (fun hHeld => ?_); refine with_tabW impl_DialbackRight.tab6 impl_DialbackRight.bits6 (fun HT_ HW_ => ?_)
       generalize w39.drew = w40 at BK382 BK386 HB hHeld ⊢
       refine zp 0 (some 29) zm1_10 HT_ ?_
       refine zp 2 (some 31) zm2_10 HT_ ?_
       refine zt 1 (some 30) zm3_10 HT_ HW_ hHeld ?_
       refine zt 3 (some 32) zm4_10 HT_ HW_ hHeld ?_
       refine zp 4 (some 33) zm5_10 HT_ ?_
       refine one_ (i := 5) (N := some 34) zm6_10 rfl rfl (one_of HT_.out (by kernel_rfl)) (by decide) (fun K hK => ?_)
       refine goes_ Tryd.func27 (by kernel_rfl) rfl #[.int .i64 ((rd_T43 l0_2 x24_2).f1), .int .i64 1, .int .i64 (wrap64 (a0_1 - 1))] (by rfl) rfl rfl zb1_10 ?_
       with_reducible refine (impl_in.calls ((rd_T43 l0_2 x24_2).f1) 1 (wrap64 (a0_1 - 1)) true _ A25.out).mono ?_
       rintro e w' ⟨rfl, ⟨nd, rfl⟩⟩
       refine ⟨_, rfl, ?_⟩
       refine hK.out _ _ zk0_10 (fun hHeld => ?_)
       clear hK K
       refine zn (some 34) ?_
       refine zp 6 (some 35) zm7_10 HT_ ?_
       refine zp 7 (some 36) zm8_10 HT_ ?_
       refine zp 8 (some 37) zm9_10 HT_ ?_
       refine zp 9 (some 38) zm10_10 HT_ ?_
       refine zp 10 (some 39) zm11_10 HT_ ?_
       refine zu 11 (some 40) zm12_10 HT_ ?_
       refine zu 12 (some 41) zm30_10 HT_ ?_
       refine zu 13 (some 42) zm31_10 HT_ ?_
       refine zu 14 (some 43) zm32_10 HT_ ?_
       refine zu 15 (some 44) zm33_10 HT_ ?_
       refine zu 16 (some 45) zm34_10 HT_ ?_
       refine zu 17 (some 46) zm35_10 HT_ ?_
       refine zu 18 (some 47) zm19_10 HT_ ?_
       refine zu 19 (some 48) zm20_10 HT_ ?_
       refine zu 20 (some 49) zm21_10 HT_ ?_
       refine zp 21 (some 50) zm22_10 HT_ ?_
       refine zp 22 (some 51) zm23_10 HT_ ?_
       refine zp 23 (some 52) zm24_10 HT_ ?_
       refine zp 24 (some 53) zm25_10 HT_ ?_
       refine zt 25 (some 54) zm26_10 HT_ HW_ hHeld ?_
       refine one_ (i := 26) (N := some 55) zm27_10 rfl rfl (one_of HT_.out (by kernel_rfl)) (by decide) (fun K hK => ?_)
       refine goes_ Tryd.func23 (by kernel_rfl) rfl #[.string ((rd_T43 l0_2 x24_2).f0)] (by rfl) rfl rfl zb1_10 ?_
       with_reducible refine (impl_isDomain.calls k2 ((rd_T43 l0_2 x24_2).f0) t390 _ A38.out zb2_10).mono ?_
       rintro e w41 ⟨rfl, hb⟩
       refine ⟨_, rfl, ?_⟩
       replace BK382 := bkb BK382 hb
       replace BK386 := bkb BK386 hb
       replace HB := Aside0.mk (below_step (by repeat ((with_reducible first | exact HB.out | apply pw_below_drewN))) hb)
       (try clear hb)
       refine hK.out _ _ zk0_10 (fun hHeld => ?_)
       clear hK K
       refine zn (some 55) ?_
       refine zp 27 (some 56) zm28_10 HT_ ?_
       refine zp 28 (some 57) zm29_10 HT_ ?_
       refine done_ (done_of HT_.out (by kernel_rfl)) ?_
       try go_wp2
       go_meet
       case rel => exact ⟨_, (!t390), zb5_10, H', ⟨by have := HJ1.out; have := HK2.out; omega⟩, ⟨by exact BK382.out⟩, ⟨by exact BK386.out⟩, ⟨by repeat ((with_reducible (exact HB.out)))⟩⟩
      rw [if_pos c27] at H
      have c27b0 : decide (0 < x24_2) = true := decide_eq_true c27
      clear c27
      obtain ⟨ji28, hji28⟩ : ∃ j_ : Int, (wrap64 (x24_2 - 1)) = j_ := ⟨_, rfl⟩
      replace H : (if 0 ≤ (ji28) then (if (ji28) < (l0_2.length : Int) then (if ((rd_T43 l0_2 (ji28)).f1) ≥ ((rd_T43 l0_2 x24_2).f1) then (impl_DialbackRight.j2 k2 l0_2 (l0_2.length : Int) x24_2 true a0_0 a0_1 l0_2 ((rd_T43 l0_2 x24_2).f0) ((rd_T43 l0_2 x24_2).f1) ((rd_T43 l0_2 x24_2).f2) ((rd_T43 l0_2 x24_2).f3)) else ((impl_isDomain.f k2 ((rd_T43 l0_2 x24_2).f0)).bind fun t389 => (impl_DialbackRight.j2 k2 l0_2 (l0_2.length : Int) x24_2 (!t389) a0_0 a0_1 l0_2 ((rd_T43 l0_2 x24_2).f0) ((rd_T43 l0_2 x24_2).f1) ((rd_T43 l0_2 x24_2).f2) ((rd_T43 l0_2 x24_2).f3)))) else (none)) else (none)) = some r := by (rw [hji28] at H; exact H)
      have hji28w : (IntKind.i64.wrap (x24_2 - 1)) = ji28 := (i64_w _).trans hji28
      by_cases c29 : 0 ≤ (ji28)
      rotate_left
      · rw [if_neg c29] at H; exact absurd H (by simp)
      rw [if_pos c29] at H
      have c29b0 := decide_eq_true c29
      clear c29
      by_cases c30 : (ji28) < (l0_2.length : Int)
      rotate_left
      · rw [if_neg c30] at H; exact absurd H (by simp)
      rw [if_pos c30] at H
      have c30b0 := decide_eq_true c30
      clear c30
      try go_wp2
      obtain ⟨w32, hq_⟩ : ∃ W_, W_ = ((((w22.setCell ⟨gb386, 0, none⟩ (.string ((rd_T43 l0_2 x24_2).f0))).setCell ⟨gb386, 1, none⟩ (.int .i64 ((rd_T43 l0_2 x24_2).f1))).setCell ⟨gb386, 2, none⟩ (.int .i64 ((rd_T43 l0_2 x24_2).f2))).setCell ⟨gb386, 3, none⟩ (.string ((rd_T43 l0_2 x24_2).f3))) := ⟨_, rfl⟩
      rw [← hq_]
      have n0_ : Aside0 (w32.heap[gb382]? = some (.cells #[.string a0_0, .int .i64 a0_1, .slice (some ad385) l0_2.length c0_2] 25 (0, 0))) := ⟨by rw [hq_]; refine blk_far ?_ NB382_386.out _; refine blk_far ?_ NB382_386.out _; refine blk_far ?_ NB382_386.out _; refine blk_far ?_ NB382_386.out _; exact BK382.out⟩
      have n1_ : Aside0 (w32.heap[gb386]? = some (.cells #[.string ((rd_T43 l0_2 x24_2).f0), .int .i64 ((rd_T43 l0_2 x24_2).f1), .int .i64 ((rd_T43 l0_2 x24_2).f2), .string ((rd_T43 l0_2 x24_2).f3)] 43 (0, 0))) := ⟨by rw [hq_]; apply bp4; exact BK386.out⟩
      have n2_ : Aside0 (Below w.heap.size w w32) := ⟨by rw [hq_]; repeat ((with_reducible first | exact HB.out | refine below_set ?_ GE386.out))⟩
      (try clear BK382)
      (try clear BK386)
      (try clear HB)
      clear hq_
      have BK382 := n0_
      have BK386 := n1_
      have HB := n2_
      clear n0_ n1_ n2_
      replace BK382 := Aside0.mk (blk_drew BK382.out)
      replace BK386 := Aside0.mk (blk_drew BK386.out)
      replace HB := Aside0.mk (below_drew1 HB.out)
      have p388 : 0 ≤ ((ji28) : Int) := of_decide_eq_true zb6_10
      have q388 : (ji28) < (l0_2.length : Int) := of_decide_eq_true zb6_10
      obtain ⟨ad388, e388, hx388_0, hx388_1, hx388_2, hx388_3⟩ := at_T43 HR0_2.out (ji28) p388 q388
      have hw388_3 := hx388_3
      have hw388_2 := hx388_2
      have hw388_1 := hx388_1
      have hw388_0 := hx388_0
      obtain rfl : ad385 = ad388 := (by injection e388)
      replace hx388_0 := (HB.out.cell (World.block_lt_of_cell? w _ hx388_0)).trans hx388_0
      replace hx388_1 := (HB.out.cell (World.block_lt_of_cell? w _ hx388_1)).trans hx388_1
      replace hx388_2 := (HB.out.cell (World.block_lt_of_cell? w _ hx388_2)).trans hx388_2
      replace hx388_3 := (HB.out.cell (World.block_lt_of_cell? w _ hx388_3)).trans hx388_3
      replace p388 := eq_true p388
      replace q388 := eq_true q388
      refine start_ (n := 29) (S := fun w' => w'.cell? ⟨gb386, 0, none⟩ = some (.string ((rd_T43 l0_2 x24_2).f0)) ∧ w'.cell? ⟨gb386, 1, none⟩ = some (.int .i64 ((rd_T43 l0_2 x24_2).f1)) ∧ w'.cell? ⟨gb386, 2, none⟩ = some (.int .i64 ((rd_T43 l0_2 x24_2).f2)) ∧ w'.cell? ⟨gb386, 3, none⟩ = some (.string ((rd_T43 l0_2 x24_2).f3)) ∧ w'.cell? ⟨gb382, 0, none⟩ = some (.string a0_0) ∧ w'.cell? ⟨gb382, 1, none⟩ = some (.int .i64 a0_1) ∧ w'.cell? ⟨gb382, 2, none⟩ = some (.slice (some ad385) l0_2.length c0_2) ∧ w'.cell? (ad385.add (((ji28)).toNat * 4)) = some (.string ((rd_T43 l0_2 (ji28)).f0)) ∧ w'.cell? ⟨(ad385.add (((ji28)).toNat * 4)).block, (ad385.add (((ji28)).toNat * 4)).off + 1, none⟩ = some (.int .i64 ((rd_T43 l0_2 (ji28)).f1)) ∧ w'.cell? ⟨(ad385.add (((ji28)).toNat * 4)).block, (ad385.add (((ji28)).toNat * 4)).off + 2, none⟩ = some (.int .i64 ((rd_T43 l0_2 (ji28)).f2)) ∧ w'.cell? ⟨(ad385.add (((ji28)).toNat * 4)).block, (ad385.add (((ji28)).toNat * 4)).off + 3, none⟩ = some (.string ((rd_T43 l0_2 (ji28)).f3))) (ds := []) zm0_10 (by kernel_rfl) rfl rfl ⟨(blk_cell BK386.out 0).trans rfl, (blk_cell BK386.out 1).trans rfl, (blk_cell BK386.out 2).trans rfl, (blk_cell BK386.out 3).trans rfl, (blk_cell BK382.out 0).trans rfl, (blk_cell BK382.out 1).trans rfl, (blk_cell BK382.out 2).trans rfl, ((HB.out.cell (World.block_lt_of_cell? w _ hw388_0)).trans hw388_0), ((HB.out.cell (World.block_lt_of_cell? w _ hw388_1)).trans hw388_1), ((HB.out.cell (World.block_lt_of_cell? w _ hw388_2)).trans hw388_2), ((HB.out.cell (World.block_lt_of_cell? w _ hw388_3)).trans hw388_3)⟩ (fun hHeld => ?_); refine with_tabW impl_DialbackRight.tab6 impl_DialbackRight.bits6 (fun HT_ HW_ => ?_)
      generalize w32.drew = w33 at BK382 BK386 HB hx388_0 hx388_1 hx388_2 hx388_3 hHeld ⊢
      refine zp 0 (some 29) zm1_10 HT_ ?_
      refine zp 2 (some 31) zm2_10 HT_ ?_
      refine zt 1 (some 30) zm3_10 HT_ HW_ hHeld ?_
      refine zt 3 (some 32) zm4_10 HT_ HW_ hHeld ?_
      refine zp 4 (some 33) zm5_10 HT_ ?_
      refine one_ (i := 5) (N := some 34) zm6_10 rfl rfl (one_of HT_.out (by kernel_rfl)) (by decide) (fun K hK => ?_)
      refine goes_ Tryd.func27 (by kernel_rfl) rfl #[.int .i64 ((rd_T43 l0_2 x24_2).f1), .int .i64 1, .int .i64 (wrap64 (a0_1 - 1))] (by rfl) rfl rfl zb1_10 ?_
      with_reducible refine (impl_in.calls ((rd_T43 l0_2 x24_2).f1) 1 (wrap64 (a0_1 - 1)) true _ A25.out).mono ?_
      rintro e w' ⟨rfl, ⟨nd, rfl⟩⟩
      refine ⟨_, rfl, ?_⟩
      refine hK.out _ _ zk1_10 (fun hHeld => ?_)
      clear hK K
      refine zn (some 34) ?_
      refine zp 6 (some 35) zm7_10 HT_ ?_
      refine zp 7 (some 36) zm8_10 HT_ ?_
      refine zp 8 (some 37) zm9_10 HT_ ?_
      refine zp 9 (some 38) zm10_10 HT_ ?_
      refine zp 10 (some 39) zm11_10 HT_ ?_
      refine zp 11 (some 40) zm12_10 HT_ ?_
      refine zp 13 (some 42) zm13_10 HT_ ?_
      refine zp 14 (some 43) zm14_10 HT_ ?_
      refine zp 18 (some 47) zm15_10 HT_ ?_
      refine zt 12 (some 41) zm16_10 HT_ HW_ hHeld ?_
      refine zp 15 (some 44) zm17_10 HT_ ?_
      refine zp 16 (some 45) zm18_10 HT_ ?_
      refine zt 17 (some 46) zm19_10 HT_ HW_ hHeld ?_
      refine zt 19 (some 48) zm20_10 HT_ HW_ hHeld ?_
      refine zp 20 (some 49) zm21_10 HT_ ?_
      refine zp 21 (some 50) zm22_10 HT_ ?_
      refine zp 22 (some 51) zm23_10 HT_ ?_
      refine zp 23 (some 52) zm24_10 HT_ ?_
      by_cases c31 : ((rd_T43 l0_2 (ji28)).f1) ≥ ((rd_T43 l0_2 x24_2).f1)
      ·
       rw [if_pos c31] at H
       have c31b0 : decide (((rd_T43 l0_2 x24_2).f1) ≤ ((rd_T43 l0_2 (ji28)).f1)) = true := decide_eq_true c31
       clear c31
       have H' := Aside0.mk H
       clear H
       (try rw [c31b0])
       refine zu 24 (some 53) zm25_10 HT_ ?_
       refine zu 25 (some 54) zm26_10 HT_ ?_
       refine zu 26 (some 55) zm27_10 HT_ ?_
       refine zu 27 (some 56) zm28_10 HT_ ?_
       refine zp 28 (some 57) zm29_10 HT_ ?_
       refine done_ (done_of HT_.out (by kernel_rfl)) ?_
       try go_wp2
       go_meet
       case rel => exact ⟨_, (true), zb5_10, H', ⟨by have := HJ1.out; have := HK2.out; omega⟩, ⟨by (with_reducible repeat ((refine blk_drewN ?_ _))); exact BK382.out⟩, ⟨by (with_reducible repeat ((refine blk_drewN ?_ _))); exact BK386.out⟩, ⟨by repeat ((with_reducible first | exact HB.out | apply pw_below_drewN))⟩⟩
      rw [if_neg c31] at H
      have c31b0 : decide (((rd_T43 l0_2 x24_2).f1) ≤ ((rd_T43 l0_2 (ji28)).f1)) = false := decide_eq_false c31
      clear c31
      replace H := Option.bind_eq_some_iff.mp H
      obtain ⟨t389, A340, H⟩ := H
      (try dsimp -simprocs only at H)
      have A34 := Aside0.mk A340
      clear A340
      have H' := Aside0.mk H
      clear H
      (try rw [c31b0])
      refine zp 24 (some 53) zm25_10 HT_ ?_
      refine zt 25 (some 54) zm26_10 HT_ HW_ hHeld ?_
      refine one_ (i := 26) (N := some 55) zm27_10 rfl rfl (one_of HT_.out (by kernel_rfl)) (by decide) (fun K hK => ?_)
      refine goes_ Tryd.func23 (by kernel_rfl) rfl #[.string ((rd_T43 l0_2 x24_2).f0)] (by rfl) rfl rfl zb1_10 ?_
      with_reducible refine (impl_isDomain.calls k2 ((rd_T43 l0_2 x24_2).f0) t389 _ A34.out zb2_10).mono ?_
      rintro e w37 ⟨rfl, hb⟩
      refine ⟨_, rfl, ?_⟩
      replace BK382 := bkb BK382 hb
      replace BK386 := bkb BK386 hb
      replace HB := Aside0.mk (below_step (by repeat ((with_reducible first | exact HB.out | apply pw_below_drewN))) hb)
      (try clear hb)
      refine hK.out _ _ zk1_10 (fun hHeld => ?_)
      clear hK K
      refine zn (some 55) ?_
      refine zp 27 (some 56) zm28_10 HT_ ?_
      refine zp 28 (some 57) zm29_10 HT_ ?_
      refine done_ (done_of HT_.out (by kernel_rfl)) ?_
      try go_wp2
      go_meet
      case rel => exact ⟨_, (!t389), zb5_10, H', ⟨by have := HJ1.out; have := HK2.out; omega⟩, ⟨by exact BK382.out⟩, ⟨by exact BK386.out⟩, ⟨by repeat ((with_reducible (exact HB.out)))⟩⟩
     case rest =>
      clear HC21
      obtain ⟨kq, x57_20, rfl, HA, HJ20, BK382, BK386, HB⟩ := hcut
      cases kq with
      | zero => exact absurd HA.out (by simp [impl_DialbackRight.j2])
      | succ kj20 =>
       have H := HA.out
       clear HA
       simp only [impl_DialbackRight.j2] at H
       by_cases c44 : x57_20 = true
       · subst c44; rw [if_pos rfl] at H; obtain rfl := Option.some.inj H; go_wp2; go_ret; exact ⟨by rfl, by repeat ((with_reducible (exact HB.out)))⟩
       replace c44 := Bool.eq_false_iff.mpr c44
       subst c44
       rw [if_neg (show ¬ (false = true) by decide)] at H
       replace H := Option.bind_eq_some_iff.mp H
       obtain ⟨t391, A450, H⟩ := H
       (try dsimp -simprocs only at H)
       have A45 := Aside0.mk A450
       clear A450
       have hnb48 := NB386_382.out
       have hnc48 := NB382_386.out
       obtain ⟨z0, z1, z2, z3, z4, z5, z6, z7⟩ := bz4 BK386.out
       by_cases c46 : t391 = true
       rotate_left
       ·
        replace c46 := Bool.eq_false_iff.mpr c46
        subst c46
        rw [if_neg (show ¬ (false = true) by decide)] at H
        obtain rfl := Option.some.inj H
        go_wp2_with (((with_reducible refine gate_callee (f := 27) rfl ?_); refine goesL_ (some 60) rfl rfl Tryd.func27 (by kernel_rfl) rfl #[.int .i64 ((rd_T43 l0_2 x24_2).f2), .int .i64 0, .int .i64 3] rfl zb1_10 ?_; (with_reducible refine (impl_in.calls ((rd_T43 l0_2 x24_2).f2) 0 3 false _ A45.out).mono ?_); rintro e w' ⟨rfl, ⟨nd, rfl⟩⟩; refine ⟨_, rfl, ?_⟩))
        go_ret
        exact ⟨by rfl, by repeat ((with_reducible first | exact HB.out | apply pw_below_drewN))⟩
       subst c46
       rw [if_pos rfl] at H
       by_cases c47 : (((rd_T43 l0_2 x24_2).f3).size : Int) > 64
       ·
        rw [if_pos c47] at H
        have c47b0 : decide (64 < (((rd_T43 l0_2 x24_2).f3).size : Int)) = true := decide_eq_true c47
        have c47b1 : decide (64 < ((rd_T43 l0_2 x24_2).f3).size) = true := decide_eq_true (by omega)
        clear c47
        obtain rfl := Option.some.inj H
        (try rw [c47b0])
        (try rw [c47b1])
        go_wp2_with (((with_reducible refine gate_callee (f := 27) rfl ?_); refine goesL_ (some 60) rfl rfl Tryd.func27 (by kernel_rfl) rfl #[.int .i64 ((rd_T43 l0_2 x24_2).f2), .int .i64 0, .int .i64 3] rfl zb1_10 ?_; (with_reducible refine (impl_in.calls ((rd_T43 l0_2 x24_2).f2) 0 3 true _ A45.out).mono ?_); rintro e w' ⟨rfl, ⟨nd, rfl⟩⟩; refine ⟨_, rfl, ?_⟩))
        go_ret
        exact ⟨by rfl, by repeat ((with_reducible first | exact HB.out | apply pw_below_drewN))⟩
       rw [if_neg c47] at H
       have c47b0 : decide (64 < (((rd_T43 l0_2 x24_2).f3).size : Int)) = false := decide_eq_false c47
       have c47b1 : decide (64 < ((rd_T43 l0_2 x24_2).f3).size) = false := decide_eq_false (by omega)
       clear c47
       (try rw [c47b0])
       (try rw [c47b1])
       by_cases c50 : ((((rd_T43 l0_2 x24_2).f3).toList == ([] : List UInt8)) != (((rd_T43 l0_2 x24_2).f2) == 0)) = true
       ·
        rw [if_pos c50] at H
        have c50b0 : ((((rd_T43 l0_2 x24_2).f3).toList == ([] : List UInt8)) != (((rd_T43 l0_2 x24_2).f2) == 0)) = true := c50
        try have c50b9 : (((rd_T43 l0_2 x24_2).f3).toList.isEmpty == (((rd_T43 l0_2 x24_2).f2) == 0)) = false := by have hem_ : ∀ l : List UInt8, l.isEmpty = (l == []) := (fun l => by cases l <;> rfl); simp only [hem_]; have h_ : (!((((rd_T43 l0_2 x24_2).f3).toList == ([] : List UInt8)) == (((rd_T43 l0_2 x24_2).f2) == 0))) = true := c50b0; generalize ((((rd_T43 l0_2 x24_2).f3).toList == ([] : List UInt8)) == (((rd_T43 l0_2 x24_2).f2) == 0)) = q_ at h_ ⊢; cases q_ <;> first | rfl | cases h_
        (try (have c50b1 : decide ((((rd_T43 l0_2 x24_2).f3).toList == ([] : List UInt8)) = (((rd_T43 l0_2 x24_2).f2) == 0)) = false := by simpa using c50))
        (try (have c50b2 : ((((rd_T43 l0_2 x24_2).f3).toList == ([] : List UInt8)) == (((rd_T43 l0_2 x24_2).f2) == 0)) = false := by simpa using c50))
        (try (have c50b3 : ¬ ((((rd_T43 l0_2 x24_2).f3).toList == ([] : List UInt8)) = (((rd_T43 l0_2 x24_2).f2) == 0)) := by simpa using c50))
        clear c50
        obtain rfl := Option.some.inj H
        (try rw [c50b0])
        (try rw [c50b9])
        (try rw [c50b1])
        (try rw [c50b2])
        (try rw [c50b3])
        go_wp2_with (((with_reducible refine gate_callee (f := 27) rfl ?_); refine goesL_ (some 60) rfl rfl Tryd.func27 (by kernel_rfl) rfl #[.int .i64 ((rd_T43 l0_2 x24_2).f2), .int .i64 0, .int .i64 3] rfl zb1_10 ?_; (with_reducible refine (impl_in.calls ((rd_T43 l0_2 x24_2).f2) 0 3 true _ A45.out).mono ?_); rintro e w' ⟨rfl, ⟨nd, rfl⟩⟩; refine ⟨_, rfl, ?_⟩))
        go_ret
        exact ⟨by rfl, by repeat ((with_reducible first | exact HB.out | apply pw_below_drewN))⟩
       rw [if_neg c50] at H
       have c50b0 : ((((rd_T43 l0_2 x24_2).f3).toList == ([] : List UInt8)) != (((rd_T43 l0_2 x24_2).f2) == 0)) = false := by simpa using c50
       try have c50b9 : (((rd_T43 l0_2 x24_2).f3).toList.isEmpty == (((rd_T43 l0_2 x24_2).f2) == 0)) = true := by have hem_ : ∀ l : List UInt8, l.isEmpty = (l == []) := (fun l => by cases l <;> rfl); simp only [hem_]; have h_ : (!((((rd_T43 l0_2 x24_2).f3).toList == ([] : List UInt8)) == (((rd_T43 l0_2 x24_2).f2) == 0))) = false := c50b0; generalize ((((rd_T43 l0_2 x24_2).f3).toList == ([] : List UInt8)) == (((rd_T43 l0_2 x24_2).f2) == 0)) = q_ at h_ ⊢; cases q_ <;> first | rfl | cases h_
       (try (have c50b1 : decide ((((rd_T43 l0_2 x24_2).f3).toList == ([] : List UInt8)) = (((rd_T43 l0_2 x24_2).f2) == 0)) = true := by simpa using c50))
       (try (have c50b2 : ((((rd_T43 l0_2 x24_2).f3).toList == ([] : List UInt8)) == (((rd_T43 l0_2 x24_2).f2) == 0)) = true := by simpa using c50))
       clear c50
       have H' := Aside0.mk H
       clear H
       (try rw [c50b0])
       (try rw [c50b9])
       (try rw [c50b1])
       (try rw [c50b2])
       go_wp2_with (((with_reducible refine gate_callee (f := 27) rfl ?_); refine goesL_ (some 60) rfl rfl Tryd.func27 (by kernel_rfl) rfl #[.int .i64 ((rd_T43 l0_2 x24_2).f2), .int .i64 0, .int .i64 3] rfl zb1_10 ?_; (with_reducible refine (impl_in.calls ((rd_T43 l0_2 x24_2).f2) 0 3 true _ A45.out).mono ?_); rintro e w' ⟨rfl, ⟨nd, rfl⟩⟩; refine ⟨_, rfl, ?_⟩))
       go_roundg kj20
       case measure => have := HJ1.out; have := HK2.out; have := HJ20.out; omega
       case rel => exact ⟨(wrap64 (x24_2 + 1)), zb5_10, H', ⟨by have := HJ1.out; have := HK2.out; have := HJ20.out; omega⟩, ⟨by (with_reducible repeat ((refine blk_drewN ?_ _))); exact BK382.out⟩, ⟨by repeat ((with_reducible first | exact HB.out | apply pw_below_drewN))⟩⟩
end Go.Proofs.YtfijkimkdccioaaDoor.QFnDialback
