-- laid by this session's own runner (wip/print2.py): not a printed file
import Derived.Test.YtfijkimkdccioaaDoorQFnDialbackx0
import Derived.Test.YtfijkimkdccioaaDoorQFnDialbackx3
namespace Go.Proofs.YtfijkimkdccioaaDoor.QFnDialback
open Go.RowKit Go.Proofs.YtfijkimkdccioaaDoorW.PrintWords Go.Proofs.YtfijkimkdccioaaDoorW.PrintLast Go.Proofs.YtfijkimkdccioaaDoorW.PrintMore
attribute [local go_sem] max2_int min2_int max_two min_two max_three min_three max_four min_four   -- for this text's walks alone
set_option linter.unusedVariables false
set_option linter.unusedSimpArgs false

abbrev zm0 : Array Bool := pm 0 50
abbrev zm1 : Array Bool := pm 1 49
abbrev zm2 : Array Bool := pm 2 48
abbrev zm3 : Array Bool := pm 3 47
abbrev zm4 : Array Bool := pm 4 46
abbrev zm5 : Array Bool := pm 5 45
abbrev zm6 : Array Bool := pm 6 44
abbrev zm7 : Array Bool := #[I,I,I,I,I,I,O,I,O,O,O,O,O,O,O,O,O,O,O,O,O,O,O,O,O,O,O,O,O,O,O,O,O,O,O,O,O,O,O,O,O,O,O,O,O,O,O,O,O,O]
abbrev zm8 : Array Bool := pm 8 42
abbrev zm9 : Array Bool := pm 9 41
abbrev zm10 : Array Bool := pm 10 40
abbrev zm11 : Array Bool := pm 11 39
abbrev zm12 : Array Bool := pm 12 38
abbrev zm13 : Array Bool := pm 13 37
abbrev zm14 : Array Bool := pm 14 36
abbrev zm15 : Array Bool := pm 15 35
abbrev zm16 : Array Bool := pm 16 34
abbrev zm17 : Array Bool := pm 17 33
abbrev zm18 : Array Bool := pm 18 32
abbrev zm19 : Array Bool := #[I,I,I,I,I,I,I,I,I,I,I,I,I,I,I,I,I,I,O,I,O,O,O,O,O,O,O,O,O,O,O,O,O,O,O,O,O,O,O,O,O,O,O,O,O,O,O,O,O,O]
abbrev zm20 : Array Bool := #[I,I,I,I,I,I,I,I,I,I,I,I,I,I,I,I,I,I,O,I,I,O,O,O,O,O,O,O,O,O,O,O,O,O,O,O,O,O,O,O,O,O,O,O,O,O,O,O,O,O]
abbrev zm21 : Array Bool := #[I,I,I,I,I,I,I,I,I,I,I,I,I,I,I,I,I,I,O,I,I,O,O,O,I,O,O,O,O,O,O,O,O,O,O,O,O,O,O,O,O,O,O,O,O,O,O,O,O,O]
abbrev zm22 : Array Bool := #[I,I,I,I,I,I,I,I,I,I,I,I,I,I,I,I,I,I,I,I,I,O,O,O,I,O,O,O,O,O,O,O,O,O,O,O,O,O,O,O,O,O,O,O,O,O,O,O,O,O]
abbrev zm23 : Array Bool := #[I,I,I,I,I,I,I,I,I,I,I,I,I,I,I,I,I,I,I,I,I,I,O,O,I,O,O,O,O,O,O,O,O,O,O,O,O,O,O,O,O,O,O,O,O,O,O,O,O,O]
abbrev zm24 : Array Bool := #[I,I,I,I,I,I,I,I,I,I,I,I,I,I,I,I,I,I,I,I,I,I,I,O,I,O,O,O,O,O,O,O,O,O,O,O,O,O,O,O,O,O,O,O,O,O,O,O,O,O]
abbrev zm25 : Array Bool := pm 25 25
abbrev zm26 : Array Bool := pm 26 24
abbrev zm27 : Array Bool := pm 27 23
abbrev zm28 : Array Bool := pm 28 22
abbrev zm29 : Array Bool := pm 29 21
abbrev zm30 : Array Bool := pm 30 20
abbrev zm31 : Array Bool := pm 31 19
abbrev zm32 : Array Bool := pm 32 18
abbrev zm33 : Array Bool := pm 33 17
abbrev zm34 : Array Bool := pm 34 16
abbrev zm35 : Array Bool := pm 35 15
abbrev zm36 : Array Bool := pm 36 14
abbrev zm37 : Array Bool := pm 37 13
abbrev zm38 : Array Bool := pm 38 12
abbrev zm39 : Array Bool := pm 39 11
abbrev zm40 : Array Bool := pm 40 10
abbrev zm41 : Array Bool := pm 41 9
abbrev zm42 : Array Bool := pm 42 8
abbrev zm43 : Array Bool := pm 43 7
abbrev zm44 : Array Bool := pm 44 6
abbrev zm45 : Array Bool := pm 45 5
abbrev zm46 : Array Bool := pm 46 4
abbrev zm47 : Array Bool := pm 47 3
abbrev zm48 : Array Bool := pm 48 2
abbrev zm49 : Array Bool := pm 49 1
abbrev zm50 : Array Bool := pm 50 0
abbrev zm51 : Array Bool := #[I,I,I,I,I,I,I,I,I,I,I,I,I,I,I,I,I,I,I,I,I,I,I,I,I,I,I,I,I,I,I,I,I,I,I,I,I,I,I,I,I,I,I,O,O,I,O,O,O,O]
abbrev zm52 : Array Bool := #[I,I,I,I,I,I,I,I,I,I,I,I,I,I,I,I,I,I,I,I,I,I,I,I,I,I,I,I,I,I,I,I,I,I,I,I,I,I,I,I,I,I,I,I,O,I,O,O,O,O]
abbrev zm53 : Array Bool := pm 19 31
abbrev zm54 : Array Bool := pm 20 30
abbrev zm55 : Array Bool := pm 21 29
abbrev zm56 : Array Bool := pm 22 28
abbrev zm57 : Array Bool := pm 23 27
abbrev zm58 : Array Bool := pm 24 26
abbrev zm59 : Array Bool := pm 7 43
theorem bcq_4 {w : World} {g t : Nat} {cs : Array Value} {v : Value} (h : w.heap[g]? = some (.cells cs t (0, 0))) (j : Nat) (e : cs[j]? = some v := by rfl) : w.cell? ⟨g, j, none⟩ = some v := (blk_cell h j).trans e
theorem zb0_4 {P : Prop} (h : P := by repeat ((with_reducible (exact HB.out)))) : P := h
theorem zb1_4 {P : Prop} (h : P := by (try simp only [List.map_toArray, List.map_cons, List.map_nil]); rfl) : P := h
theorem zb2_4 {P : Prop} (h : P := by rfl) : P := h
theorem zb3_4 {P : Prop} (h : P := by (with_reducible assumption)) : P := h
theorem zb4_4 {P : Prop} (h : P := by exact BK105.out) : P := h
theorem zb5_4 {P : Prop} (h : P := by repeat ((with_reducible (exact HB.out)))) : P := h
theorem zb6_4 {P : Prop} (h : P := by rw [hg]; exact (below_size (by repeat ((with_reducible (exact HB.out)))))) : P := h
theorem zb7_4 {P : Prop} (h : P := by rw [hg]; exact Nat.ne_of_lt (blk_lt (g := gb105) (o := .cells #[.string a0_0, .int .i64 a0_1, .slice (some ad108) l0_2.length c0_2] 25 (0, 0)) (by exact BK105.out))) : P := h
theorem zb8_4 {P : Prop} (h : P := by rw [hg]; exact Nat.ne_of_gt (blk_lt (g := gb105) (o := .cells #[.string a0_0, .int .i64 a0_1, .slice (some ad108) l0_2.length c0_2] 25 (0, 0)) (by exact BK105.out))) : P := h
theorem zk0_4 {P : Prop} (h : P := by exact ⟨(blk_cell BK109.out 0).trans rfl, (blk_cell BK109.out 1).trans rfl, (blk_cell BK109.out 2).trans rfl, (blk_cell BK109.out 3).trans rfl, (blk_cell BK105.out 0).trans rfl, (blk_cell BK105.out 1).trans rfl, (blk_cell BK105.out 2).trans rfl⟩) : P := h
theorem zk1_4 {P : Prop} (h : P := by exact ⟨(blk_cell BK109.out 0).trans rfl, (blk_cell BK109.out 1).trans rfl, (blk_cell BK109.out 2).trans rfl, (blk_cell BK109.out 3).trans rfl, (blk_cell BK105.out 0).trans rfl, (blk_cell BK105.out 1).trans rfl, (blk_cell BK105.out 2).trans rfl, ((HB.out.cell (World.block_lt_of_cell? w _ hw112_0)).trans hw112_0), ((HB.out.cell (World.block_lt_of_cell? w _ hw112_1)).trans hw112_1), ((HB.out.cell (World.block_lt_of_cell? w _ hw112_2)).trans hw112_2), ((HB.out.cell (World.block_lt_of_cell? w _ hw112_3)).trans hw112_3)⟩) : P := h
/-! ### spec_DialbackRight: function 15 -/
mutual
def spec_DialbackRight.j0 : Nat → Bool → ByteArray → Int → List (S43) → Option (Bool)
 | 0, _, _, _, _ => none
 | k + 1, x20, x106000, x106001, x106002 => if x20 = true then (some false) else (spec_DialbackRight.l0 k 0 x106000 x106001 x106002)
def spec_DialbackRight.l0 : Nat → Int → ByteArray → Int → List (S43) → Option (Bool)
 | 0, _, _, _, _ => none
 | k + 1, x3, x106000, x106001, x106002 => if x3 < (x106002.length : Int) then (if 0 ≤ x3 then ((spec_l05Domain.f k ((rd_T43 x106002 x3).f0)).bind fun t110 => (if t110 = true then ((spec_l03Is.f ((rd_T43 x106002 x3).f1) 1 (wrap64 (x106001 - 1))).bind fun t111 => (if t111 = true then (if x3 > 0 then (if 0 ≤ (wrap64 (x3 - 1)) then (if (wrap64 (x3 - 1)) < (x106002.length : Int) then (if ((rd_T43 x106002 (wrap64 (x3 - 1))).f1) ≥ ((rd_T43 x106002 x3).f1) then (some false) else ((spec_l03Is.f ((rd_T43 x106002 x3).f2) 0 3).bind fun t113 => (if t113 = true then (if (((rd_T43 x106002 x3).f3).size : Int) > 64 then (some false) else (if ((((rd_T43 x106002 x3).f3).toList == ([] : List UInt8)) != (((rd_T43 x106002 x3).f2) == 0)) = true then (some false) else (spec_DialbackRight.l0 k (wrap64 (x3 + 1)) x106000 x106001 x106002))) else (some false)))) else (none)) else (none)) else ((spec_l03Is.f ((rd_T43 x106002 x3).f2) 0 3).bind fun t114 => (if t114 = true then (if (((rd_T43 x106002 x3).f3).size : Int) > 64 then (some false) else (if ((((rd_T43 x106002 x3).f3).toList == ([] : List UInt8)) != (((rd_T43 x106002 x3).f2) == 0)) = true then (some false) else (spec_DialbackRight.l0 k (wrap64 (x3 + 1)) x106000 x106001 x106002))) else (some false)))) else (some false))) else (some false))) else (none)) else (some true)
end
def spec_DialbackRight.f (k : Nat) (a0_0 : ByteArray) (a0_1 : Int) (l0_2 : List (S43)) : Option (Bool) := (spec_l05Domain.f k a0_0).bind fun t106 => (if t106 = true then ((spec_l03Is.f a0_1 1 1000000000).bind fun t107 => (if t107 = true then (spec_DialbackRight.j0 k (decide ((l0_2.length : Int) > 10)) a0_0 a0_1 l0_2) else (spec_DialbackRight.j0 k true a0_0 a0_1 l0_2))) else (spec_DialbackRight.j0 k true a0_0 a0_1 l0_2))
theorem spec_DialbackRight.mono_l : ∀ k, (∀ y0 y1 y2 y3, LeO (spec_DialbackRight.j0 k y0 y1 y2 y3) (spec_DialbackRight.j0 (k + 1) y0 y1 y2 y3)) ∧ (∀ y0 y1 y2 y3, LeO (spec_DialbackRight.l0 k y0 y1 y2 y3) (spec_DialbackRight.l0 (k + 1) y0 y1 y2 y3))
 | 0 => ⟨fun _ _ _ _ r h => by simp [spec_DialbackRight.j0] at h, fun _ _ _ _ r h => by simp [spec_DialbackRight.l0] at h⟩
 | k + 1 => by
  obtain ⟨ih0, ih1⟩ := spec_DialbackRight.mono_l k
  refine ⟨?_, ?_⟩
  ·
   intro y0 y1 y2 y3
   unfold spec_DialbackRight.j0
   repeat' first
   | (with_reducible exact ih0 _ _ _ _)
   | (with_reducible exact ih1 _ _ _ _)
   | (with_reducible exact spec_l05Domain.mono _ _)
   | (with_reducible exact LeO.refl _)
   | (with_reducible exact LeO.none _)
   | (with_reducible refine LeO.ite ?_ ?_)
   | (with_reducible refine LeO.bind ?_ (fun _ => ?_))
   | exact ih0 _ _ _ _
   | exact ih1 _ _ _ _
   | exact spec_l05Domain.mono _ _
   | exact LeO.none _
   | refine LeO.ite ?_ ?_
   | refine LeO.bind ?_ (fun _ => ?_)
  ·
   intro y0 y1 y2 y3
   unfold spec_DialbackRight.l0
   repeat' first
   | (with_reducible exact ih0 _ _ _ _)
   | (with_reducible exact ih1 _ _ _ _)
   | (with_reducible exact spec_l05Domain.mono _ _)
   | (with_reducible exact LeO.refl _)
   | (with_reducible exact LeO.none _)
   | (with_reducible refine LeO.ite ?_ ?_)
   | (with_reducible refine LeO.bind ?_ (fun _ => ?_))
   | exact ih0 _ _ _ _
   | exact ih1 _ _ _ _
   | exact spec_l05Domain.mono _ _
   | exact LeO.none _
   | refine LeO.ite ?_ ?_
   | refine LeO.bind ?_ (fun _ => ?_)
theorem spec_DialbackRight.mono : ∀ a0 a1 a2 k, LeO (spec_DialbackRight.f k a0 a1 a2) (spec_DialbackRight.f (k + 1) a0 a1 a2) := by
 intro a0 a1 a2 k
 obtain ⟨ih0, ih1⟩ := spec_DialbackRight.mono_l k
 unfold spec_DialbackRight.f
 repeat' first
   | (with_reducible exact ih0 _ _ _ _)
   | (with_reducible exact ih1 _ _ _ _)
   | (with_reducible exact spec_l05Domain.mono _ _)
   | (with_reducible exact LeO.refl _)
   | (with_reducible exact LeO.none _)
   | (with_reducible refine LeO.ite ?_ ?_)
   | (with_reducible refine LeO.bind ?_ (fun _ => ?_))
   | exact ih0 _ _ _ _
   | exact ih1 _ _ _ _
   | exact spec_l05Domain.mono _ _
   | exact LeO.none _
   | refine LeO.ite ?_ ?_
   | refine LeO.bind ?_ (fun _ => ?_)
def spec_DialbackRight.T7 : Bool × List (List Nat × List Nat) := (true, [([], []), ([0], [0]), ([1], [1]), ([2], [2]), ([3, 2], [3]), ([4], [4]), ([5, 4], [4, 5]), ([4], [4]), ([7, 4], [4, 7]), ([8, 4], [4, 8]), ([6, 9, 4, 4], [4, 6, 9]), ([10, 4], [4, 10]), ([4, 11], [4, 11]), ([12, 10], [12]), ([13], [13]), ([14, 13], [13, 14]), ([15, 13, 13], [13, 15]), ([16], [16]), ([17, 16], [16, 17]), ([16], [16]), ([19, 16], [16, 19]), ([18, 20, 16], [16, 18, 20]), ([21, 16], [16, 21]), ([22, 16], [16, 22]), ([16], [16]), ([24, 16], [16, 24]), ([23, 25, 16], [16, 23, 25]), ([16, 26, 13], [13, 16, 26]), ([13, 27], [13, 27]), ([28, 16], [28]), ([29], [29]), ([30, 29], [29, 30]), ([31, 29, 29], [29, 31]), ([32, 29], [29, 32]), ([29, 33], [29, 33]), ([34, 32], [34]), ([35], [35]), ([36, 35], [35, 36]), ([37, 35], [35, 37]), ([38, 35], [35, 38]), ([35, 39], [35, 39]), ([40, 35], [40]), ([41], [41]), ([42, 41], [41, 42]), ([43, 41], [41, 43]), ([41], [41]), ([45, 41], [41, 45]), ([46, 41], [41, 46]), ([44, 47, 41], [41, 44, 47]), ([41, 48], [41, 48])])
def spec_DialbackRight.B7 : List Nat := [0, 1, 3, 7, 15, 31, 63, 31, 159, 415, 1023, 2047, 4095, 8191, 16383, 32767, 65535, 131071, 262143, 131071, 655359, 2097151, 4194303, 8388607, 131071, 16908287, 67108863, 134217727, 268435455, 536870911, 1073741823, 2147483647, 4294967295, 8589934591, 17179869183, 34359738367, 68719476735, 137438953471, 274877906943, 549755813887, 1099511627775, 2199023255551, 4398046511103, 8796093022207, 17592186044415, 4398046511103, 39582418599935, 109951162777599, 281474976710655, 562949953421311]
theorem spec_DialbackRight.tab7 : rtab .any (opsOf Tryd.f15 7) = spec_DialbackRight.T7 := by kernel_rfl
theorem spec_DialbackRight.bits7 : waitsOk spec_DialbackRight.T7.2 spec_DialbackRight.B7 = true := by kernel_rfl
set_option maxHeartbeats 8000000 in
set_option maxRecDepth 100000 in
theorem spec_DialbackRight.calls (k : Nat) (a0_0 : ByteArray) (a0_1 : Int) (A0_2 : Option Addr) (c0_2 : Nat) (l0_2 : List (S43)) (r : Bool) (w : World) (hr0_2 : Kd.C k43 w A0_2 l0_2.length l0_2) (hc0_2 : l0_2.length ≤ c0_2) (h : spec_DialbackRight.f k a0_0 a0_1 l0_2 = some r) :
  Calls Tryd.prog 15 #[.agg #[.string a0_0, .int .i64 a0_1, .slice A0_2 l0_2.length c0_2]] w fun e w' => e = .returned (.bool r) ∧ Below w.heap.size w w' := by
 have hu25 := Tryd.underlying25
 have hu43 := Tryd.underlying43
 have HR0_2 := Aside0.mk hr0_2
 have HC0_2 := Aside0.mk hc0_2
 clear hr0_2 hc0_2
 have HB := Aside0.mk (Below.refl w.heap.size w)
 have H : ((spec_l05Domain.f k a0_0).bind fun t106 => (if t106 = true then ((spec_l03Is.f a0_1 1 1000000000).bind fun t107 => (if t107 = true then (spec_DialbackRight.j0 k (decide ((l0_2.length : Int) > 10)) a0_0 a0_1 l0_2) else (spec_DialbackRight.j0 k true a0_0 a0_1 l0_2))) else (spec_DialbackRight.j0 k true a0_0 a0_1 l0_2))) = some r := h
 clear h
 have HC2 := Aside0.mk H
 clear H
 go_enter Tryd.func15, Tryd.ntmps15
 go_upto_region 1 with (((with_reducible refine gate_dst (N := 1) rfl ?_); (try (refine gate_guard (by rfl) ?_; dsimp only)); refine box_event ?hg (N := 1) ?hd (cs := #[.string a0_0, .int .i64 a0_1, .slice A0_2 l0_2.length c0_2]) (t := 25) ?hr ?_; (case hd => rfl); (case hg => rfl); (case hr => (go_simp; done)); intro gb105 hg w3 hbox hb; have BK105 := Aside0.mk (hbox); have GW105 := Aside0.mk ((by rw [hg]; exact (below_size zb0_4) : w.heap.size ≤ gb105)); have GE105 := Aside0.mk ((by rw [hg]; exact (below_size zb0_4) : w.heap.size ≤ gb105)); replace HB := Aside0.mk (below_step zb0_4 hb); clear hb hbox hg))
 go_cut [20] (fun v20 wc => ∃ (kq : Nat) (x20_1 : Bool), v20 = .bool x20_1 ∧ Aside0 (spec_DialbackRight.j0 kq x20_1 a0_0 a0_1 l0_2 = some r) ∧ Aside0 (kq ≤ k) ∧ Aside0 (wc.heap[gb105]? = some (.cells #[.string a0_0, .int .i64 a0_1, (.slice A0_2 l0_2.length c0_2)] 25 (0, 0))) ∧ Aside0 (Below w.heap.size w wc))
 case first =>
  have H := HC2.out
  clear HC2
  replace H := Option.bind_eq_some_iff.mp H
  obtain ⟨t106, A40, H⟩ := H
  (try dsimp -simprocs only at H)
  have A4 := Aside0.mk A40
  clear A40
  obtain ⟨z0, z1, z2, z3, z4, z5⟩ := bz3 BK105.out
  by_cases c5 : t106 = true
  rotate_left
  ·
   replace c5 := Bool.eq_false_iff.mpr c5
   subst c5
   rw [if_neg (show ¬ (false = true) by decide)] at H
   have H' := Aside0.mk H
   clear H
   go_wp2_with (((with_reducible refine gate_callee (f := 30) rfl ?_); refine goesL_ (some 7) rfl rfl Tryd.func30 (by kernel_rfl) rfl #[.string a0_0] rfl zb1_4 ?_; (with_reducible refine (spec_l05Domain.calls k a0_0 false _ A4.out).mono ?_); rintro e w' ⟨rfl, ⟨nd, rfl⟩⟩; refine ⟨_, rfl, ?_⟩))
   go_meet
   case rel => exact ⟨_, (true), zb2_4, H', ⟨by omega⟩, ⟨by (with_reducible repeat ((refine blk_drewN ?_ _))); exact BK105.out⟩, ⟨by repeat ((with_reducible first | exact HB.out | apply pw_below_drewN))⟩⟩
  subst c5
  rw [if_pos rfl] at H
  replace H := Option.bind_eq_some_iff.mp H
  obtain ⟨t107, A60, H⟩ := H
  (try dsimp -simprocs only at H)
  have A6 := Aside0.mk A60
  clear A60
  by_cases c7 : t107 = true
  ·
   subst c7
   rw [if_pos rfl] at H
   have H' := Aside0.mk H
   clear H
   go_wp2_with (first | ((with_reducible refine gate_callee (f := 30) rfl ?_); refine goesL_ (some 7) rfl rfl Tryd.func30 (by kernel_rfl) rfl #[.string a0_0] rfl zb1_4 ?_; (with_reducible refine (spec_l05Domain.calls k a0_0 true _ A4.out).mono ?_); rintro e w' ⟨rfl, ⟨nd, rfl⟩⟩; refine ⟨_, rfl, ?_⟩) | (go_at_call 33; (with_reducible refine (spec_l03Is.calls a0_1 1 1000000000 true _ A6.out).mono ?_); rintro e w' ⟨rfl, ⟨nd, rfl⟩⟩))
   go_meet
   case rel => exact ⟨_, (decide ((l0_2.length : Int) > 10)), zb2_4, H', ⟨by omega⟩, ⟨by (with_reducible repeat ((refine blk_drewN ?_ _))); exact BK105.out⟩, ⟨by repeat ((with_reducible first | exact HB.out | apply pw_below_drewN))⟩⟩
  replace c7 := Bool.eq_false_iff.mpr c7
  subst c7
  rw [if_neg (show ¬ (false = true) by decide)] at H
  have H' := Aside0.mk H
  clear H
  go_wp2_with (first | ((with_reducible refine gate_callee (f := 30) rfl ?_); refine goesL_ (some 7) rfl rfl Tryd.func30 (by kernel_rfl) rfl #[.string a0_0] rfl zb1_4 ?_; (with_reducible refine (spec_l05Domain.calls k a0_0 true _ A4.out).mono ?_); rintro e w' ⟨rfl, ⟨nd, rfl⟩⟩; refine ⟨_, rfl, ?_⟩) | (go_at_call 33; (with_reducible refine (spec_l03Is.calls a0_1 1 1000000000 false _ A6.out).mono ?_); rintro e w' ⟨rfl, ⟨nd, rfl⟩⟩))
  go_meet
  case rel => exact ⟨_, (true), zb2_4, H', ⟨by omega⟩, ⟨by (with_reducible repeat ((refine blk_drewN ?_ _))); exact BK105.out⟩, ⟨by repeat ((with_reducible first | exact HB.out | apply pw_below_drewN))⟩⟩
 case rest =>
  clear HC2
  obtain ⟨kq, x20_1, rfl, HA, HJ1, BK105, HB⟩ := hcut
  cases kq with
  | zero => exact absurd HA.out (by simp [spec_DialbackRight.j0])
  | succ kj1 =>
   have H := HA.out
   clear HA
   simp only [spec_DialbackRight.j0] at H
   by_cases c11 : x20_1 = true
   · subst c11; rw [if_pos rfl] at H; obtain rfl := Option.some.inj H; go_wp2; go_ret; exact ⟨by rfl, by repeat ((with_reducible (exact HB.out)))⟩
   replace c11 := Bool.eq_false_iff.mpr c11
   subst c11
   rw [if_neg (show ¬ (false = true) by decide)] at H
   have H' := Aside0.mk H
   clear H
   go_wp2
   go_loopg [3] kj1 (fun kq v3 w' => ∃ (x3_2 : Int), v3 = .int .i64 x3_2 ∧ Aside0 (spec_DialbackRight.l0 kq x3_2 a0_0 a0_1 l0_2 = some r) ∧ Aside0 (kq ≤ kj1) ∧ Aside0 (w'.heap[gb105]? = some (.cells #[.string a0_0, .int .i64 a0_1, (.slice A0_2 l0_2.length c0_2)] 25 (0, 0))) ∧ Aside0 (Below w.heap.size w w'))
   case atStart => exact ⟨(0), zb2_4, H', ⟨Nat.le_refl _⟩, ⟨by exact BK105.out⟩, ⟨by repeat ((with_reducible (exact HB.out)))⟩⟩
   case round =>
    clear H'
    obtain ⟨x3_2, rfl, HA, HK2, BK105, HB⟩ := hrel
    cases gk with
    | zero => exact absurd HA.out (by simp [spec_DialbackRight.l0])
    | succ k2 =>
     have H := HA.out
     clear HA
     simp only [spec_DialbackRight.l0] at H
     obtain ⟨z0, z1, z2, z3, z4, z5⟩ := bz3 BK105.out
     by_cases c12 : x3_2 < (l0_2.length : Int)
     rotate_left
     · rw [if_neg c12] at H; have c12b0 := decide_eq_false c12; clear c12; obtain rfl := Option.some.inj H; (try rw [c12b0]); go_wp2; go_ret; exact ⟨by rfl, by repeat ((with_reducible (exact HB.out)))⟩
     rw [if_pos c12] at H
     have c12b0 := decide_eq_true c12
     clear c12
     (try rw [c12b0])
     by_cases c13 : 0 ≤ x3_2
     rotate_left
     · rw [if_neg c13] at H; exact absurd H (by simp)
     rw [if_pos c13] at H
     have c13b0 := decide_eq_true c13
     clear c13
     replace H := Option.bind_eq_some_iff.mp H
     obtain ⟨t110, A140, H⟩ := H
     (try dsimp -simprocs only at H)
     have A14 := Aside0.mk A140
     clear A140
     have p108 : 0 ≤ (x3_2 : Int) := of_decide_eq_true zb3_4
     have q108 : x3_2 < (l0_2.length : Int) := of_decide_eq_true zb3_4
     obtain ⟨ad108, e108, hx108_0, hx108_1, hx108_2, hx108_3⟩ := at_T43 HR0_2.out x3_2 p108 q108
     cases e108
     replace hx108_0 := (HB.out.cell (World.block_lt_of_cell? w _ hx108_0)).trans hx108_0
     replace hx108_1 := (HB.out.cell (World.block_lt_of_cell? w _ hx108_1)).trans hx108_1
     replace hx108_2 := (HB.out.cell (World.block_lt_of_cell? w _ hx108_2)).trans hx108_2
     replace hx108_3 := (HB.out.cell (World.block_lt_of_cell? w _ hx108_3)).trans hx108_3
     replace p108 := eq_true p108
     replace q108 := eq_true q108
     by_cases c15 : t110 = true
     rotate_left
     ·
      replace c15 := Bool.eq_false_iff.mpr c15
      subst c15
      rw [if_neg (show ¬ (false = true) by decide)] at H
      obtain rfl := Option.some.inj H
      try go_wp2_with (((with_reducible refine gate_dst (N := 4) rfl ?_); (try (refine gate_guard (by rfl) ?_; dsimp only)); refine box_event ?hg (N := 4) ?hd (cs := #[.string (⟨#[]⟩ : ByteArray), .int .i64 0, .int .i64 0, .string (⟨#[]⟩ : ByteArray)]) (t := 43) ?hr ?_; (case hd => rfl); (case hg => rfl); (case hr => (go_simp; done)); intro gb109 hg w92 hbox hb; have BK109 := Aside0.mk (hbox); have GW109 := Aside0.mk ((zb6_4 : w.heap.size ≤ gb109)); have GE109 := GW109; replace HB := Aside0.mk (below_step zb5_4 hb); have NB105_109 := Aside0.mk ((zb7_4 : gb105 ≠ gb109)); have NB109_105 := Aside0.mk ((zb8_4 : gb109 ≠ gb105)); replace BK105 := bkb BK105 hb; clear hb hbox hg; have hnb93 := NB109_105.out; have hnc93 := NB105_109.out; obtain ⟨z0, z1, z2, z3, z4, z5, z6, z7⟩ := bz4 BK109.out))
      obtain ⟨w95, hq_⟩ : ∃ W_, W_ = ((((w92.setCell ⟨gb109, 0, none⟩ (.string ((rd_T43 l0_2 x3_2).f0))).setCell ⟨gb109, 1, none⟩ (.int .i64 ((rd_T43 l0_2 x3_2).f1))).setCell ⟨gb109, 2, none⟩ (.int .i64 ((rd_T43 l0_2 x3_2).f2))).setCell ⟨gb109, 3, none⟩ (.string ((rd_T43 l0_2 x3_2).f3))) := ⟨_, rfl⟩
      rw [← hq_]
      have n0_ : Aside0 (w95.heap[gb105]? = some (.cells #[.string a0_0, .int .i64 a0_1, .slice (some ad108) l0_2.length c0_2] 25 (0, 0))) := ⟨by rw [hq_]; refine blk_far ?_ NB105_109.out _; refine blk_far ?_ NB105_109.out _; refine blk_far ?_ NB105_109.out _; refine blk_far ?_ NB105_109.out _; exact BK105.out⟩
      have n1_ : Aside0 (w95.heap[gb109]? = some (.cells #[.string ((rd_T43 l0_2 x3_2).f0), .int .i64 ((rd_T43 l0_2 x3_2).f1), .int .i64 ((rd_T43 l0_2 x3_2).f2), .string ((rd_T43 l0_2 x3_2).f3)] 43 (0, 0))) := ⟨by rw [hq_]; apply bp4; exact BK109.out⟩
      have n2_ : Aside0 (Below w.heap.size w w95) := ⟨by rw [hq_]; repeat ((with_reducible first | exact HB.out | refine below_set ?_ GE109.out))⟩
      (try clear BK105)
      (try clear BK109)
      (try clear HB)
      clear hq_
      have BK105 := n0_
      have BK109 := n1_
      have HB := n2_
      clear n0_ n1_ n2_
      replace BK105 := Aside0.mk (blk_drew BK105.out)
      replace BK109 := Aside0.mk (blk_drew BK109.out)
      replace HB := Aside0.mk (below_drew1 HB.out)
      refine start_ (n := 50) (S := fun w' => w'.cell? ⟨gb109, 0, none⟩ = some (.string ((rd_T43 l0_2 x3_2).f0)) ∧ w'.cell? ⟨gb109, 1, none⟩ = some (.int .i64 ((rd_T43 l0_2 x3_2).f1)) ∧ w'.cell? ⟨gb109, 2, none⟩ = some (.int .i64 ((rd_T43 l0_2 x3_2).f2)) ∧ w'.cell? ⟨gb109, 3, none⟩ = some (.string ((rd_T43 l0_2 x3_2).f3))) (ds := []) zm0 (by kernel_rfl) rfl rfl ⟨(blk_cell BK109.out 0).trans rfl, (blk_cell BK109.out 1).trans rfl, (blk_cell BK109.out 2).trans rfl, (blk_cell BK109.out 3).trans rfl⟩ (fun hHeld => ?_); refine with_tabW spec_DialbackRight.tab7 spec_DialbackRight.bits7 (fun HT_ HW_ => ?_)
      generalize w95.drew = w96 at BK105 BK109 HB hHeld ⊢
      refine zp 0 (some 33) zm1 HT_ ?_
      refine zt 1 (some 34) zm2 HT_ HW_ hHeld ?_
      refine one_ (i := 2) (N := some 35) zm3 rfl rfl (one_of HT_.out (by kernel_rfl)) (by decide) (fun K hK => ?_)
      refine goes_ Tryd.func30 (by kernel_rfl) rfl #[.string ((rd_T43 l0_2 x3_2).f0)] (by rfl) rfl rfl zb1_4 ?_
      with_reducible refine (spec_l05Domain.calls k2 ((rd_T43 l0_2 x3_2).f0) false _ A14.out).mono ?_
      rintro e w' ⟨rfl, ⟨nd, rfl⟩⟩
      refine ⟨_, rfl, ?_⟩
      refine hK.out _ _ ⟨(blk_cell BK109.out 0).trans rfl, (blk_cell BK109.out 1).trans rfl, (blk_cell BK109.out 2).trans rfl, (blk_cell BK109.out 3).trans rfl⟩ (fun hHeld => ?_)
      clear hK K
      refine zn (some 35) ?_
      refine zp 3 (some 36) zm4 HT_ ?_
      refine zp 4 (some 37) zm5 HT_ ?_
      refine zu 5 (some 38) zm6 HT_ ?_
      refine zu 6 (some 39) zm59 HT_ ?_
      refine zu 7 (some 40) zm8 HT_ ?_
      refine zu 8 (some 41) zm9 HT_ ?_
      refine zu 9 (some 42) zm10 HT_ ?_
      refine zu 10 (some 43) zm11 HT_ ?_
      refine zu 11 (some 44) zm12 HT_ ?_
      refine zp 12 (some 45) zm13 HT_ ?_
      refine zp 13 (some 46) zm14 HT_ ?_
      refine zu 14 (some 47) zm15 HT_ ?_
      refine zu 15 (some 48) zm16 HT_ ?_
      refine zu 16 (some 49) zm17 HT_ ?_
      refine zu 17 (some 50) zm18 HT_ ?_
      refine zu 18 (some 51) zm53 HT_ ?_
      refine zu 19 (some 52) zm54 HT_ ?_
      refine zu 20 (some 53) zm55 HT_ ?_
      refine zu 21 (some 54) zm56 HT_ ?_
      refine zu 22 (some 55) zm57 HT_ ?_
      refine zu 23 (some 56) zm58 HT_ ?_
      refine zu 24 (some 57) zm25 HT_ ?_
      refine zu 25 (some 58) zm26 HT_ ?_
      refine zu 26 (some 59) zm27 HT_ ?_
      refine zu 27 (some 60) zm28 HT_ ?_
      refine zp 28 (some 61) zm29 HT_ ?_
      refine zp 29 (some 62) zm30 HT_ ?_
      refine zu 30 (some 63) zm31 HT_ ?_
      refine zu 31 (some 64) zm32 HT_ ?_
      refine zu 32 (some 65) zm33 HT_ ?_
      refine zu 33 (some 66) zm34 HT_ ?_
      refine zp 34 (some 67) zm35 HT_ ?_
      refine zp 35 (some 68) zm36 HT_ ?_
      refine zu 36 (some 69) zm37 HT_ ?_
      refine zu 37 (some 70) zm38 HT_ ?_
      refine zu 38 (some 71) zm39 HT_ ?_
      refine zu 39 (some 72) zm40 HT_ ?_
      refine zp 40 (some 73) zm41 HT_ ?_
      refine zp 41 (some 74) zm42 HT_ ?_
      refine zu 42 (some 75) zm43 HT_ ?_
      refine zu 43 (some 76) zm44 HT_ ?_
      refine zu 44 (some 77) zm45 HT_ ?_
      refine zu 45 (some 78) zm46 HT_ ?_
      refine zu 46 (some 79) zm47 HT_ ?_
      refine zu 47 (some 80) zm48 HT_ ?_
      refine zu 48 (some 81) zm49 HT_ ?_
      refine zp 49 (some 82) zm50 HT_ ?_
      refine done_ (done_of HT_.out (by kernel_rfl)) ?_
      try go_wp2
      go_ret
      exact ⟨by rfl, by repeat ((with_reducible first | exact HB.out | apply pw_below_drewN))⟩
     subst c15
     rw [if_pos rfl] at H
     replace H := Option.bind_eq_some_iff.mp H
     obtain ⟨t111, A160, H⟩ := H
     (try dsimp -simprocs only at H)
     have A16 := Aside0.mk A160
     clear A160
     by_cases c17 : t111 = true
     rotate_left
     ·
      replace c17 := Bool.eq_false_iff.mpr c17
      subst c17
      rw [if_neg (show ¬ (false = true) by decide)] at H
      obtain rfl := Option.some.inj H
      try go_wp2_with (((with_reducible refine gate_dst (N := 4) rfl ?_); (try (refine gate_guard (by rfl) ?_; dsimp only)); refine box_event ?hg (N := 4) ?hd (cs := #[.string (⟨#[]⟩ : ByteArray), .int .i64 0, .int .i64 0, .string (⟨#[]⟩ : ByteArray)]) (t := 43) ?hr ?_; (case hd => rfl); (case hg => rfl); (case hr => (go_simp; done)); intro gb109 hg w86 hbox hb; have BK109 := Aside0.mk (hbox); have GW109 := Aside0.mk ((zb6_4 : w.heap.size ≤ gb109)); have GE109 := GW109; replace HB := Aside0.mk (below_step zb5_4 hb); have NB105_109 := Aside0.mk ((zb7_4 : gb105 ≠ gb109)); have NB109_105 := Aside0.mk ((zb8_4 : gb109 ≠ gb105)); replace BK105 := bkb BK105 hb; clear hb hbox hg; have hnb87 := NB109_105.out; have hnc87 := NB105_109.out; obtain ⟨z0, z1, z2, z3, z4, z5, z6, z7⟩ := bz4 BK109.out))
      obtain ⟨w89, hq_⟩ : ∃ W_, W_ = ((((w86.setCell ⟨gb109, 0, none⟩ (.string ((rd_T43 l0_2 x3_2).f0))).setCell ⟨gb109, 1, none⟩ (.int .i64 ((rd_T43 l0_2 x3_2).f1))).setCell ⟨gb109, 2, none⟩ (.int .i64 ((rd_T43 l0_2 x3_2).f2))).setCell ⟨gb109, 3, none⟩ (.string ((rd_T43 l0_2 x3_2).f3))) := ⟨_, rfl⟩
      rw [← hq_]
      have n0_ : Aside0 (w89.heap[gb105]? = some (.cells #[.string a0_0, .int .i64 a0_1, .slice (some ad108) l0_2.length c0_2] 25 (0, 0))) := ⟨by rw [hq_]; refine blk_far ?_ NB105_109.out _; refine blk_far ?_ NB105_109.out _; refine blk_far ?_ NB105_109.out _; refine blk_far ?_ NB105_109.out _; exact BK105.out⟩
      have n1_ : Aside0 (w89.heap[gb109]? = some (.cells #[.string ((rd_T43 l0_2 x3_2).f0), .int .i64 ((rd_T43 l0_2 x3_2).f1), .int .i64 ((rd_T43 l0_2 x3_2).f2), .string ((rd_T43 l0_2 x3_2).f3)] 43 (0, 0))) := ⟨by rw [hq_]; apply bp4; exact BK109.out⟩
      have n2_ : Aside0 (Below w.heap.size w w89) := ⟨by rw [hq_]; repeat ((with_reducible first | exact HB.out | refine below_set ?_ GE109.out))⟩
      (try clear BK105)
      (try clear BK109)
      (try clear HB)
      clear hq_
      have BK105 := n0_
      have BK109 := n1_
      have HB := n2_
      clear n0_ n1_ n2_
      replace BK105 := Aside0.mk (blk_drew BK105.out)
      replace BK109 := Aside0.mk (blk_drew BK109.out)
      replace HB := Aside0.mk (below_drew1 HB.out)
      refine start_ (n := 50) (S := fun w' => w'.cell? ⟨gb109, 0, none⟩ = some (.string ((rd_T43 l0_2 x3_2).f0)) ∧ w'.cell? ⟨gb109, 1, none⟩ = some (.int .i64 ((rd_T43 l0_2 x3_2).f1)) ∧ w'.cell? ⟨gb109, 2, none⟩ = some (.int .i64 ((rd_T43 l0_2 x3_2).f2)) ∧ w'.cell? ⟨gb109, 3, none⟩ = some (.string ((rd_T43 l0_2 x3_2).f3)) ∧ w'.cell? ⟨gb105, 0, none⟩ = some (.string a0_0) ∧ w'.cell? ⟨gb105, 1, none⟩ = some (.int .i64 a0_1) ∧ w'.cell? ⟨gb105, 2, none⟩ = some (.slice (some ad108) l0_2.length c0_2)) (ds := []) zm0 (by kernel_rfl) rfl rfl ⟨(blk_cell BK109.out 0).trans rfl, (blk_cell BK109.out 1).trans rfl, (blk_cell BK109.out 2).trans rfl, (blk_cell BK109.out 3).trans rfl, (blk_cell BK105.out 0).trans rfl, (blk_cell BK105.out 1).trans rfl, (blk_cell BK105.out 2).trans rfl⟩ (fun hHeld => ?_); refine with_tabW spec_DialbackRight.tab7 spec_DialbackRight.bits7 (fun HT_ HW_ => ?_)
      generalize w89.drew = w90 at BK105 BK109 HB hHeld ⊢
      refine zp 0 (some 33) zm1 HT_ ?_
      refine zt 1 (some 34) zm2 HT_ HW_ hHeld ?_
      refine one_ (i := 2) (N := some 35) zm3 rfl rfl (one_of HT_.out (by kernel_rfl)) (by decide) (fun K hK => ?_)
      refine goes_ Tryd.func30 (by kernel_rfl) rfl #[.string ((rd_T43 l0_2 x3_2).f0)] (by rfl) rfl rfl zb1_4 ?_
      with_reducible refine (spec_l05Domain.calls k2 ((rd_T43 l0_2 x3_2).f0) true _ A14.out).mono ?_
      rintro e w' ⟨rfl, ⟨nd, rfl⟩⟩
      refine ⟨_, rfl, ?_⟩
      refine hK.out _ _ zk0_4 (fun hHeld => ?_)
      clear hK K
      refine zn (some 35) ?_
      refine zp 3 (some 36) zm4 HT_ ?_
      refine zp 4 (some 37) zm5 HT_ ?_
      refine zp 5 (some 38) zm6 HT_ ?_
      refine zp 7 (some 40) zm7 HT_ ?_
      refine zt 6 (some 39) zm8 HT_ HW_ hHeld ?_
      refine zt 8 (some 41) zm9 HT_ HW_ hHeld ?_
      refine zp 9 (some 42) zm10 HT_ ?_
      refine one_ (i := 10) (N := some 43) zm11 rfl rfl (one_of HT_.out (by kernel_rfl)) (by decide) (fun K hK => ?_)
      refine goes_ Tryd.func33 (by kernel_rfl) rfl #[.int .i64 ((rd_T43 l0_2 x3_2).f1), .int .i64 1, .int .i64 (wrap64 (a0_1 - 1))] (by rfl) rfl rfl zb1_4 ?_
      with_reducible refine (spec_l03Is.calls ((rd_T43 l0_2 x3_2).f1) 1 (wrap64 (a0_1 - 1)) false _ A16.out).mono ?_
      rintro e w' ⟨rfl, ⟨nd, rfl⟩⟩
      refine ⟨_, rfl, ?_⟩
      refine hK.out _ _ zk0_4 (fun hHeld => ?_)
      clear hK K
      refine zn (some 43) ?_
      refine zp 11 (some 44) zm12 HT_ ?_
      refine zp 12 (some 45) zm13 HT_ ?_
      refine zp 13 (some 46) zm14 HT_ ?_
      refine zu 14 (some 47) zm15 HT_ ?_
      refine zu 15 (some 48) zm16 HT_ ?_
      refine zu 16 (some 49) zm17 HT_ ?_
      refine zu 17 (some 50) zm18 HT_ ?_
      refine zu 18 (some 51) zm53 HT_ ?_
      refine zu 19 (some 52) zm54 HT_ ?_
      refine zu 20 (some 53) zm55 HT_ ?_
      refine zu 21 (some 54) zm56 HT_ ?_
      refine zu 22 (some 55) zm57 HT_ ?_
      refine zu 23 (some 56) zm58 HT_ ?_
      refine zu 24 (some 57) zm25 HT_ ?_
      refine zu 25 (some 58) zm26 HT_ ?_
      refine zu 26 (some 59) zm27 HT_ ?_
      refine zu 27 (some 60) zm28 HT_ ?_
      refine zp 28 (some 61) zm29 HT_ ?_
      refine zp 29 (some 62) zm30 HT_ ?_
      refine zu 30 (some 63) zm31 HT_ ?_
      refine zu 31 (some 64) zm32 HT_ ?_
      refine zu 32 (some 65) zm33 HT_ ?_
      refine zu 33 (some 66) zm34 HT_ ?_
      refine zp 34 (some 67) zm35 HT_ ?_
      refine zp 35 (some 68) zm36 HT_ ?_
      refine zu 36 (some 69) zm37 HT_ ?_
      refine zu 37 (some 70) zm38 HT_ ?_
      refine zu 38 (some 71) zm39 HT_ ?_
      refine zu 39 (some 72) zm40 HT_ ?_
      refine zp 40 (some 73) zm41 HT_ ?_
      refine zp 41 (some 74) zm42 HT_ ?_
      refine zu 42 (some 75) zm43 HT_ ?_
      refine zu 43 (some 76) zm44 HT_ ?_
      refine zu 44 (some 77) zm45 HT_ ?_
      refine zu 45 (some 78) zm46 HT_ ?_
      refine zu 46 (some 79) zm47 HT_ ?_
      refine zu 47 (some 80) zm48 HT_ ?_
      refine zu 48 (some 81) zm49 HT_ ?_
      refine zp 49 (some 82) zm50 HT_ ?_
      refine done_ (done_of HT_.out (by kernel_rfl)) ?_
      try go_wp2
      go_ret
      exact ⟨by rfl, by repeat ((with_reducible first | exact HB.out | apply pw_below_drewN))⟩
     subst c17
     rw [if_pos rfl] at H
     by_cases c18 : x3_2 > 0
     rotate_left
     ·
      rw [if_neg c18] at H
      have c18b0 : decide (0 < x3_2) = false := decide_eq_false c18
      clear c18
      replace H := Option.bind_eq_some_iff.mp H
      obtain ⟨t114, A570, H⟩ := H
      (try dsimp -simprocs only at H)
      have A57 := Aside0.mk A570
      clear A570
      (try rw [c18b0])
      try go_wp2_with (((with_reducible refine gate_dst (N := 4) rfl ?_); (try (refine gate_guard (by rfl) ?_; dsimp only)); refine box_event ?hg (N := 4) ?hd (cs := #[.string (⟨#[]⟩ : ByteArray), .int .i64 0, .int .i64 0, .string (⟨#[]⟩ : ByteArray)]) (t := 43) ?hr ?_; (case hd => rfl); (case hg => rfl); (case hr => (go_simp; done)); intro gb109 hg w24 hbox hb; have BK109 := Aside0.mk (hbox); have GW109 := Aside0.mk ((zb6_4 : w.heap.size ≤ gb109)); have GE109 := GW109; replace HB := Aside0.mk (below_step zb5_4 hb); have NB105_109 := Aside0.mk ((zb7_4 : gb105 ≠ gb109)); have NB109_105 := Aside0.mk ((zb8_4 : gb109 ≠ gb105)); replace BK105 := bkb BK105 hb; clear hb hbox hg; have hnb25 := NB109_105.out; have hnc25 := NB105_109.out; obtain ⟨z0, z1, z2, z3, z4, z5, z6, z7⟩ := bz4 BK109.out))
      obtain ⟨w27, hq_⟩ : ∃ W_, W_ = ((((w24.setCell ⟨gb109, 0, none⟩ (.string ((rd_T43 l0_2 x3_2).f0))).setCell ⟨gb109, 1, none⟩ (.int .i64 ((rd_T43 l0_2 x3_2).f1))).setCell ⟨gb109, 2, none⟩ (.int .i64 ((rd_T43 l0_2 x3_2).f2))).setCell ⟨gb109, 3, none⟩ (.string ((rd_T43 l0_2 x3_2).f3))) := ⟨_, rfl⟩
      rw [← hq_]
      have n0_ : Aside0 (w27.heap[gb105]? = some (.cells #[.string a0_0, .int .i64 a0_1, .slice (some ad108) l0_2.length c0_2] 25 (0, 0))) := ⟨by rw [hq_]; refine blk_far ?_ NB105_109.out _; refine blk_far ?_ NB105_109.out _; refine blk_far ?_ NB105_109.out _; refine blk_far ?_ NB105_109.out _; exact BK105.out⟩
      have n1_ : Aside0 (w27.heap[gb109]? = some (.cells #[.string ((rd_T43 l0_2 x3_2).f0), .int .i64 ((rd_T43 l0_2 x3_2).f1), .int .i64 ((rd_T43 l0_2 x3_2).f2), .string ((rd_T43 l0_2 x3_2).f3)] 43 (0, 0))) := ⟨by rw [hq_]; apply bp4; exact BK109.out⟩
      have n2_ : Aside0 (Below w.heap.size w w27) := ⟨by rw [hq_]; repeat ((with_reducible first | exact HB.out | refine below_set ?_ GE109.out))⟩
      (try clear BK105)
      (try clear BK109)
      (try clear HB)
      clear hq_
      have BK105 := n0_
      have BK109 := n1_
      have HB := n2_
      clear n0_ n1_ n2_
      replace BK105 := Aside0.mk (blk_drew BK105.out)
      replace BK109 := Aside0.mk (blk_drew BK109.out)
      replace HB := Aside0.mk (below_drew1 HB.out)
      refine start_ (n := 50) (S := fun w' => w'.cell? ⟨gb109, 0, none⟩ = some (.string ((rd_T43 l0_2 x3_2).f0)) ∧ w'.cell? ⟨gb109, 1, none⟩ = some (.int .i64 ((rd_T43 l0_2 x3_2).f1)) ∧ w'.cell? ⟨gb109, 2, none⟩ = some (.int .i64 ((rd_T43 l0_2 x3_2).f2)) ∧ w'.cell? ⟨gb109, 3, none⟩ = some (.string ((rd_T43 l0_2 x3_2).f3)) ∧ w'.cell? ⟨gb105, 0, none⟩ = some (.string a0_0) ∧ w'.cell? ⟨gb105, 1, none⟩ = some (.int .i64 a0_1) ∧ w'.cell? ⟨gb105, 2, none⟩ = some (.slice (some ad108) l0_2.length c0_2)) (ds := []) zm0 (by kernel_rfl) rfl rfl ⟨(blk_cell BK109.out 0).trans rfl, (blk_cell BK109.out 1).trans rfl, (blk_cell BK109.out 2).trans rfl, (blk_cell BK109.out 3).trans rfl, (blk_cell BK105.out 0).trans rfl, (blk_cell BK105.out 1).trans rfl, (blk_cell BK105.out 2).trans rfl⟩ (fun hHeld => ?_); refine with_tabW spec_DialbackRight.tab7 spec_DialbackRight.bits7 (fun HT_ HW_ => ?_)
      generalize w27.drew = w65 at BK105 BK109 HB hHeld ⊢
      refine zp 0 (some 33) zm1 HT_ ?_
      refine zt 1 (some 34) zm2 HT_ HW_ hHeld ?_
      refine one_ (i := 2) (N := some 35) zm3 rfl rfl (one_of HT_.out (by kernel_rfl)) (by decide) (fun K hK => ?_)
      refine goes_ Tryd.func30 (by kernel_rfl) rfl #[.string ((rd_T43 l0_2 x3_2).f0)] (by rfl) rfl rfl zb1_4 ?_
      with_reducible refine (spec_l05Domain.calls k2 ((rd_T43 l0_2 x3_2).f0) true _ A14.out).mono ?_
      rintro e w' ⟨rfl, ⟨nd, rfl⟩⟩
      refine ⟨_, rfl, ?_⟩
      refine hK.out _ _ zk0_4 (fun hHeld => ?_)
      clear hK K
      refine zn (some 35) ?_
      refine zp 3 (some 36) zm4 HT_ ?_
      refine zp 4 (some 37) zm5 HT_ ?_
      refine zp 5 (some 38) zm6 HT_ ?_
      refine zp 7 (some 40) zm7 HT_ ?_
      refine zt 6 (some 39) zm8 HT_ HW_ hHeld ?_
      refine zt 8 (some 41) zm9 HT_ HW_ hHeld ?_
      refine zp 9 (some 42) zm10 HT_ ?_
      refine one_ (i := 10) (N := some 43) zm11 rfl rfl (one_of HT_.out (by kernel_rfl)) (by decide) (fun K hK => ?_)
      refine goes_ Tryd.func33 (by kernel_rfl) rfl #[.int .i64 ((rd_T43 l0_2 x3_2).f1), .int .i64 1, .int .i64 (wrap64 (a0_1 - 1))] (by rfl) rfl rfl zb1_4 ?_
      with_reducible refine (spec_l03Is.calls ((rd_T43 l0_2 x3_2).f1) 1 (wrap64 (a0_1 - 1)) true _ A16.out).mono ?_
      rintro e w' ⟨rfl, ⟨nd, rfl⟩⟩
      refine ⟨_, rfl, ?_⟩
      refine hK.out _ _ zk0_4 (fun hHeld => ?_)
      clear hK K
      refine zn (some 43) ?_
      refine zp 11 (some 44) zm12 HT_ ?_
      refine zp 12 (some 45) zm13 HT_ ?_
      refine zp 13 (some 46) zm14 HT_ ?_
      refine zp 14 (some 47) zm15 HT_ ?_
      refine zp 15 (some 48) zm16 HT_ ?_
      refine zp 16 (some 49) zm17 HT_ ?_
      refine zu 17 (some 50) zm18 HT_ ?_
      refine zu 18 (some 51) zm53 HT_ ?_
      refine zu 19 (some 52) zm54 HT_ ?_
      refine zu 20 (some 53) zm55 HT_ ?_
      refine zu 21 (some 54) zm56 HT_ ?_
      refine zu 22 (some 55) zm57 HT_ ?_
      refine zu 23 (some 56) zm58 HT_ ?_
      refine zu 24 (some 57) zm25 HT_ ?_
      refine zu 25 (some 58) zm26 HT_ ?_
      refine zu 26 (some 59) zm27 HT_ ?_
      refine zp 27 (some 60) zm28 HT_ ?_
      refine zp 28 (some 61) zm29 HT_ ?_
      refine zp 29 (some 62) zm30 HT_ ?_
      refine zp 30 (some 63) zm31 HT_ ?_
      refine zt 31 (some 64) zm32 HT_ HW_ hHeld ?_
      refine one_ (i := 32) (N := some 65) zm33 rfl rfl (one_of HT_.out (by kernel_rfl)) (by decide) (fun K hK => ?_)
      refine goes_ Tryd.func33 (by kernel_rfl) rfl #[.int .i64 ((rd_T43 l0_2 x3_2).f2), .int .i64 0, .int .i64 3] (by rfl) rfl rfl zb1_4 ?_
      by_cases c58 : t114 = true
      rotate_left
      ·
       replace c58 := Bool.eq_false_iff.mpr c58
       subst c58
       rw [if_neg (show ¬ (false = true) by decide)] at H
       obtain rfl := Option.some.inj H
       with_reducible refine (spec_l03Is.calls ((rd_T43 l0_2 x3_2).f2) 0 3 false _ A57.out).mono ?_
       rintro e w' ⟨rfl, ⟨nd, rfl⟩⟩
       refine ⟨_, rfl, ?_⟩
       refine hK.out _ _ zk0_4 (fun hHeld => ?_)
       clear hK K
       refine zn (some 65) ?_
       refine zp 33 (some 66) zm34 HT_ ?_
       refine zp 34 (some 67) zm35 HT_ ?_
       refine zp 35 (some 68) zm36 HT_ ?_
       refine zu 36 (some 69) zm37 HT_ ?_
       refine zu 37 (some 70) zm38 HT_ ?_
       refine zu 38 (some 71) zm39 HT_ ?_
       refine zu 39 (some 72) zm40 HT_ ?_
       refine zp 40 (some 73) zm41 HT_ ?_
       refine zp 41 (some 74) zm42 HT_ ?_
       refine zu 42 (some 75) zm43 HT_ ?_
       refine zu 43 (some 76) zm44 HT_ ?_
       refine zu 44 (some 77) zm45 HT_ ?_
       refine zu 45 (some 78) zm46 HT_ ?_
       refine zu 46 (some 79) zm47 HT_ ?_
       refine zu 47 (some 80) zm48 HT_ ?_
       refine zu 48 (some 81) zm49 HT_ ?_
       refine zp 49 (some 82) zm50 HT_ ?_
       refine done_ (done_of HT_.out (by kernel_rfl)) ?_
       try go_wp2
       go_ret
       exact ⟨by rfl, by repeat ((with_reducible first | exact HB.out | apply pw_below_drewN))⟩
      subst c58
      rw [if_pos rfl] at H
      with_reducible refine (spec_l03Is.calls ((rd_T43 l0_2 x3_2).f2) 0 3 true _ A57.out).mono ?_
      rintro e w' ⟨rfl, ⟨nd, rfl⟩⟩
      refine ⟨_, rfl, ?_⟩
      refine hK.out _ _ zk0_4 (fun hHeld => ?_)
      clear hK K
      refine zn (some 65) ?_
      refine zp 33 (some 66) zm34 HT_ ?_
      refine zp 34 (some 67) zm35 HT_ ?_
      refine zp 35 (some 68) zm36 HT_ ?_
      refine zp 36 (some 69) zm37 HT_ ?_
      refine zt 37 (some 70) zm38 HT_ HW_ hHeld ?_
      refine zp 38 (some 71) zm39 HT_ ?_
      refine zp 39 (some 72) zm40 HT_ ?_
      refine zp 40 (some 73) zm41 HT_ ?_
      refine zp 41 (some 74) zm42 HT_ ?_
      by_cases c59 : (((rd_T43 l0_2 x3_2).f3).size : Int) > 64
      ·
       rw [if_pos c59] at H
       have c59b0 : decide (64 < (((rd_T43 l0_2 x3_2).f3).size : Int)) = true := decide_eq_true c59
       have c59b1 : decide (64 < ((rd_T43 l0_2 x3_2).f3).size) = true := decide_eq_true (by omega)
       clear c59
       obtain rfl := Option.some.inj H
       (try rw [c59b0])
       (try rw [c59b1])
       refine zu 42 (some 75) zm43 HT_ ?_
       refine zu 43 (some 76) zm44 HT_ ?_
       refine zu 44 (some 77) zm45 HT_ ?_
       refine zu 45 (some 78) zm46 HT_ ?_
       refine zu 46 (some 79) zm47 HT_ ?_
       refine zu 47 (some 80) zm48 HT_ ?_
       refine zu 48 (some 81) zm49 HT_ ?_
       refine zp 49 (some 82) zm50 HT_ ?_
       refine done_ (done_of HT_.out (by kernel_rfl)) ?_
       try go_wp2
       go_ret
       exact ⟨by rfl, by repeat ((with_reducible first | exact HB.out | apply pw_below_drewN))⟩
      rw [if_neg c59] at H
      have c59b0 : decide (64 < (((rd_T43 l0_2 x3_2).f3).size : Int)) = false := decide_eq_false c59
      have c59b1 : decide (64 < ((rd_T43 l0_2 x3_2).f3).size) = false := decide_eq_false (by omega)
      clear c59
      (try rw [c59b0])
      (try rw [c59b1])
      refine zp 42 (some 75) zm43 HT_ ?_
      refine zp 45 (some 78) zm51 HT_ ?_
      refine zt 43 (some 76) zm52 HT_ HW_ hHeld ?_
      refine zp 44 (some 77) zm46 HT_ ?_
      refine zt 46 (some 79) zm47 HT_ HW_ hHeld ?_
      refine zp 47 (some 80) zm48 HT_ ?_
      refine zp 48 (some 81) zm49 HT_ ?_
      refine zp 49 (some 82) zm50 HT_ ?_
      refine done_ (done_of HT_.out (by kernel_rfl)) ?_
      by_cases c66 : ((((rd_T43 l0_2 x3_2).f3).toList == ([] : List UInt8)) != (((rd_T43 l0_2 x3_2).f2) == 0)) = true
      ·
       rw [if_pos c66] at H
       have c66b0 : ((((rd_T43 l0_2 x3_2).f3).toList == ([] : List UInt8)) != (((rd_T43 l0_2 x3_2).f2) == 0)) = true := c66
       try have c66b9 : (((rd_T43 l0_2 x3_2).f3).toList.isEmpty == (((rd_T43 l0_2 x3_2).f2) == 0)) = false := by have hem_ : ∀ l : List UInt8, l.isEmpty = (l == []) := (fun l => by cases l <;> rfl); simp only [hem_]; have h_ : (!((((rd_T43 l0_2 x3_2).f3).toList == ([] : List UInt8)) == (((rd_T43 l0_2 x3_2).f2) == 0))) = true := c66b0; generalize ((((rd_T43 l0_2 x3_2).f3).toList == ([] : List UInt8)) == (((rd_T43 l0_2 x3_2).f2) == 0)) = q_ at h_ ⊢; cases q_ <;> first | rfl | cases h_
       (try (have c66b1 : decide ((((rd_T43 l0_2 x3_2).f3).toList == ([] : List UInt8)) = (((rd_T43 l0_2 x3_2).f2) == 0)) = false := by simpa using c66))
       (try (have c66b2 : ((((rd_T43 l0_2 x3_2).f3).toList == ([] : List UInt8)) == (((rd_T43 l0_2 x3_2).f2) == 0)) = false := by simpa using c66))
       (try (have c66b3 : ¬ ((((rd_T43 l0_2 x3_2).f3).toList == ([] : List UInt8)) = (((rd_T43 l0_2 x3_2).f2) == 0)) := by simpa using c66))
       clear c66
       obtain rfl := Option.some.inj H
       (try rw [c66b0])
       (try rw [c66b9])
       (try rw [c66b1])
       (try rw [c66b2])
       (try rw [c66b3])
       try go_wp2
       go_ret
       exact ⟨by rfl, by repeat ((with_reducible first | exact HB.out | apply pw_below_drewN))⟩
      rw [if_neg c66] at H
      have c66b0 : ((((rd_T43 l0_2 x3_2).f3).toList == ([] : List UInt8)) != (((rd_T43 l0_2 x3_2).f2) == 0)) = false := by simpa using c66
      try have c66b9 : (((rd_T43 l0_2 x3_2).f3).toList.isEmpty == (((rd_T43 l0_2 x3_2).f2) == 0)) = true := by have hem_ : ∀ l : List UInt8, l.isEmpty = (l == []) := (fun l => by cases l <;> rfl); simp only [hem_]; have h_ : (!((((rd_T43 l0_2 x3_2).f3).toList == ([] : List UInt8)) == (((rd_T43 l0_2 x3_2).f2) == 0))) = false := c66b0; generalize ((((rd_T43 l0_2 x3_2).f3).toList == ([] : List UInt8)) == (((rd_T43 l0_2 x3_2).f2) == 0)) = q_ at h_ ⊢; cases q_ <;> first | rfl | cases h_
      (try (have c66b1 : decide ((((rd_T43 l0_2 x3_2).f3).toList == ([] : List UInt8)) = (((rd_T43 l0_2 x3_2).f2) == 0)) = true := by simpa using c66))
      (try (have c66b2 : ((((rd_T43 l0_2 x3_2).f3).toList == ([] : List UInt8)) == (((rd_T43 l0_2 x3_2).f2) == 0)) = true := by simpa using c66))
      clear c66
      have H' := Aside0.mk H
      clear H
      (try rw [c66b0])
      (try rw [c66b9])
      (try rw [c66b1])
      (try rw [c66b2])
      try go_wp2
      go_roundg k2
      case measure => have := HJ1.out; have := HK2.out; omega
      case rel => exact ⟨(wrap64 (x3_2 + 1)), zb2_4, H', ⟨by have := HJ1.out; have := HK2.out; omega⟩, ⟨by (with_reducible repeat ((refine blk_drewN ?_ _))); exact BK105.out⟩, ⟨by repeat ((with_reducible first | exact HB.out | apply pw_below_drewN))⟩⟩
     rw [if_pos c18] at H
     have c18b0 : decide (0 < x3_2) = true := decide_eq_true c18
     clear c18
     obtain ⟨ji19, hji19⟩ : ∃ j_ : Int, (wrap64 (x3_2 - 1)) = j_ := ⟨_, rfl⟩
     replace H : (if 0 ≤ (ji19) then (if (ji19) < (l0_2.length : Int) then (if ((rd_T43 l0_2 (ji19)).f1) ≥ ((rd_T43 l0_2 x3_2).f1) then (some false) else ((spec_l03Is.f ((rd_T43 l0_2 x3_2).f2) 0 3).bind fun t113 => (if t113 = true then (if (((rd_T43 l0_2 x3_2).f3).size : Int) > 64 then (some false) else (if ((((rd_T43 l0_2 x3_2).f3).toList == ([] : List UInt8)) != (((rd_T43 l0_2 x3_2).f2) == 0)) = true then (some false) else (spec_DialbackRight.l0 k2 (wrap64 (x3_2 + 1)) a0_0 a0_1 l0_2))) else (some false)))) else (none)) else (none)) = some r := by (rw [hji19] at H; exact H)
     have hji19w : (IntKind.i64.wrap (x3_2 - 1)) = ji19 := (i64_w _).trans hji19
     (try rw [c18b0])
     by_cases c20 : 0 ≤ (ji19)
     rotate_left
     · rw [if_neg c20] at H; exact absurd H (by simp)
     rw [if_pos c20] at H
     have c20b0 := decide_eq_true c20
     clear c20
     by_cases c21 : (ji19) < (l0_2.length : Int)
     rotate_left
     · rw [if_neg c21] at H; exact absurd H (by simp)
     rw [if_pos c21] at H
     have c21b0 := decide_eq_true c21
     clear c21
     try go_wp2_with (((with_reducible refine gate_dst (N := 4) rfl ?_); (try (refine gate_guard (by rfl) ?_; dsimp only)); refine box_event ?hg (N := 4) ?hd (cs := #[.string (⟨#[]⟩ : ByteArray), .int .i64 0, .int .i64 0, .string (⟨#[]⟩ : ByteArray)]) (t := 43) ?hr ?_; (case hd => rfl); (case hg => rfl); (case hr => (go_simp; done)); intro gb109 hg w24 hbox hb; have BK109 := Aside0.mk (hbox); have GW109 := Aside0.mk ((zb6_4 : w.heap.size ≤ gb109)); have GE109 := GW109; replace HB := Aside0.mk (below_step zb5_4 hb); have NB105_109 := Aside0.mk ((zb7_4 : gb105 ≠ gb109)); have NB109_105 := Aside0.mk ((zb8_4 : gb109 ≠ gb105)); replace BK105 := bkb BK105 hb; clear hb hbox hg; have hnb25 := NB109_105.out; have hnc25 := NB105_109.out; obtain ⟨z0, z1, z2, z3, z4, z5, z6, z7⟩ := bz4 BK109.out))
     obtain ⟨w27, hq_⟩ : ∃ W_, W_ = ((((w24.setCell ⟨gb109, 0, none⟩ (.string ((rd_T43 l0_2 x3_2).f0))).setCell ⟨gb109, 1, none⟩ (.int .i64 ((rd_T43 l0_2 x3_2).f1))).setCell ⟨gb109, 2, none⟩ (.int .i64 ((rd_T43 l0_2 x3_2).f2))).setCell ⟨gb109, 3, none⟩ (.string ((rd_T43 l0_2 x3_2).f3))) := ⟨_, rfl⟩
     rw [← hq_]
     have n0_ : Aside0 (w27.heap[gb105]? = some (.cells #[.string a0_0, .int .i64 a0_1, .slice (some ad108) l0_2.length c0_2] 25 (0, 0))) := ⟨by rw [hq_]; refine blk_far ?_ NB105_109.out _; refine blk_far ?_ NB105_109.out _; refine blk_far ?_ NB105_109.out _; refine blk_far ?_ NB105_109.out _; exact BK105.out⟩
     have n1_ : Aside0 (w27.heap[gb109]? = some (.cells #[.string ((rd_T43 l0_2 x3_2).f0), .int .i64 ((rd_T43 l0_2 x3_2).f1), .int .i64 ((rd_T43 l0_2 x3_2).f2), .string ((rd_T43 l0_2 x3_2).f3)] 43 (0, 0))) := ⟨by rw [hq_]; apply bp4; exact BK109.out⟩
     have n2_ : Aside0 (Below w.heap.size w w27) := ⟨by rw [hq_]; repeat ((with_reducible first | exact HB.out | refine below_set ?_ GE109.out))⟩
     (try clear BK105)
     (try clear BK109)
     (try clear HB)
     clear hq_
     have BK105 := n0_
     have BK109 := n1_
     have HB := n2_
     clear n0_ n1_ n2_
     replace BK105 := Aside0.mk (blk_drew BK105.out)
     replace BK109 := Aside0.mk (blk_drew BK109.out)
     replace HB := Aside0.mk (below_drew1 HB.out)
     have p112 : 0 ≤ ((ji19) : Int) := of_decide_eq_true zb3_4
     have q112 : (ji19) < (l0_2.length : Int) := of_decide_eq_true zb3_4
     obtain ⟨ad112, e112, hx112_0, hx112_1, hx112_2, hx112_3⟩ := at_T43 HR0_2.out (ji19) p112 q112
     have hw112_3 := hx112_3
     have hw112_2 := hx112_2
     have hw112_1 := hx112_1
     have hw112_0 := hx112_0
     obtain rfl : ad108 = ad112 := (by injection e112)
     replace hx112_0 := (HB.out.cell (World.block_lt_of_cell? w _ hx112_0)).trans hx112_0
     replace hx112_1 := (HB.out.cell (World.block_lt_of_cell? w _ hx112_1)).trans hx112_1
     replace hx112_2 := (HB.out.cell (World.block_lt_of_cell? w _ hx112_2)).trans hx112_2
     replace hx112_3 := (HB.out.cell (World.block_lt_of_cell? w _ hx112_3)).trans hx112_3
     replace p112 := eq_true p112
     replace q112 := eq_true q112
     refine start_ (n := 50) (S := fun w' => w'.cell? ⟨gb109, 0, none⟩ = some (.string ((rd_T43 l0_2 x3_2).f0)) ∧ w'.cell? ⟨gb109, 1, none⟩ = some (.int .i64 ((rd_T43 l0_2 x3_2).f1)) ∧ w'.cell? ⟨gb109, 2, none⟩ = some (.int .i64 ((rd_T43 l0_2 x3_2).f2)) ∧ w'.cell? ⟨gb109, 3, none⟩ = some (.string ((rd_T43 l0_2 x3_2).f3)) ∧ w'.cell? ⟨gb105, 0, none⟩ = some (.string a0_0) ∧ w'.cell? ⟨gb105, 1, none⟩ = some (.int .i64 a0_1) ∧ w'.cell? ⟨gb105, 2, none⟩ = some (.slice (some ad108) l0_2.length c0_2) ∧ w'.cell? (ad108.add (((ji19)).toNat * 4)) = some (.string ((rd_T43 l0_2 (ji19)).f0)) ∧ w'.cell? ⟨(ad108.add (((ji19)).toNat * 4)).block, (ad108.add (((ji19)).toNat * 4)).off + 1, none⟩ = some (.int .i64 ((rd_T43 l0_2 (ji19)).f1)) ∧ w'.cell? ⟨(ad108.add (((ji19)).toNat * 4)).block, (ad108.add (((ji19)).toNat * 4)).off + 2, none⟩ = some (.int .i64 ((rd_T43 l0_2 (ji19)).f2)) ∧ w'.cell? ⟨(ad108.add (((ji19)).toNat * 4)).block, (ad108.add (((ji19)).toNat * 4)).off + 3, none⟩ = some (.string ((rd_T43 l0_2 (ji19)).f3))) (ds := []) zm0 (by kernel_rfl) rfl rfl ⟨(blk_cell BK109.out 0).trans rfl, (blk_cell BK109.out 1).trans rfl, (blk_cell BK109.out 2).trans rfl, (blk_cell BK109.out 3).trans rfl, (blk_cell BK105.out 0).trans rfl, (blk_cell BK105.out 1).trans rfl, (blk_cell BK105.out 2).trans rfl, ((HB.out.cell (World.block_lt_of_cell? w _ hw112_0)).trans hw112_0), ((HB.out.cell (World.block_lt_of_cell? w _ hw112_1)).trans hw112_1), ((HB.out.cell (World.block_lt_of_cell? w _ hw112_2)).trans hw112_2), ((HB.out.cell (World.block_lt_of_cell? w _ hw112_3)).trans hw112_3)⟩ (fun hHeld => ?_); refine with_tabW spec_DialbackRight.tab7 spec_DialbackRight.bits7 (fun HT_ HW_ => ?_)
     generalize w27.drew = w28 at BK105 BK109 HB hx112_0 hx112_1 hx112_2 hx112_3 hHeld ⊢
     refine zp 0 (some 33) zm1 HT_ ?_
     refine zt 1 (some 34) zm2 HT_ HW_ hHeld ?_
     refine one_ (i := 2) (N := some 35) zm3 rfl rfl (one_of HT_.out (by kernel_rfl)) (by decide) (fun K hK => ?_)
     refine goes_ Tryd.func30 (by kernel_rfl) rfl #[.string ((rd_T43 l0_2 x3_2).f0)] (by rfl) rfl rfl zb1_4 ?_
     with_reducible refine (spec_l05Domain.calls k2 ((rd_T43 l0_2 x3_2).f0) true _ A14.out).mono ?_
     rintro e w' ⟨rfl, ⟨nd, rfl⟩⟩
     refine ⟨_, rfl, ?_⟩
     refine hK.out _ _ zk1_4 (fun hHeld => ?_)
     clear hK K
     refine zn (some 35) ?_
     refine zp 3 (some 36) zm4 HT_ ?_
     refine zp 4 (some 37) zm5 HT_ ?_
     refine zp 5 (some 38) zm6 HT_ ?_
     refine zp 7 (some 40) zm7 HT_ ?_
     refine zt 6 (some 39) zm8 HT_ HW_ hHeld ?_
     refine zt 8 (some 41) zm9 HT_ HW_ hHeld ?_
     refine zp 9 (some 42) zm10 HT_ ?_
     refine one_ (i := 10) (N := some 43) zm11 rfl rfl (one_of HT_.out (by kernel_rfl)) (by decide) (fun K hK => ?_)
     refine goes_ Tryd.func33 (by kernel_rfl) rfl #[.int .i64 ((rd_T43 l0_2 x3_2).f1), .int .i64 1, .int .i64 (wrap64 (a0_1 - 1))] (by rfl) rfl rfl zb1_4 ?_
     with_reducible refine (spec_l03Is.calls ((rd_T43 l0_2 x3_2).f1) 1 (wrap64 (a0_1 - 1)) true _ A16.out).mono ?_
     rintro e w' ⟨rfl, ⟨nd, rfl⟩⟩
     refine ⟨_, rfl, ?_⟩
     refine hK.out _ _ zk1_4 (fun hHeld => ?_)
     clear hK K
     refine zn (some 43) ?_
     refine zp 11 (some 44) zm12 HT_ ?_
     refine zp 12 (some 45) zm13 HT_ ?_
     refine zp 13 (some 46) zm14 HT_ ?_
     refine zp 14 (some 47) zm15 HT_ ?_
     refine zp 15 (some 48) zm16 HT_ ?_
     refine zp 16 (some 49) zm17 HT_ ?_
     refine zp 17 (some 50) zm18 HT_ ?_
     refine zp 19 (some 52) zm19 HT_ ?_
     refine zp 20 (some 53) zm20 HT_ ?_
     refine zp 24 (some 57) zm21 HT_ ?_
     refine zt 18 (some 51) zm22 HT_ HW_ hHeld ?_
     refine zp 21 (some 54) zm23 HT_ ?_
     refine zp 22 (some 55) zm24 HT_ ?_
     refine zt 23 (some 56) zm25 HT_ HW_ hHeld ?_
     refine zt 25 (some 58) zm26 HT_ HW_ hHeld ?_
     refine zp 26 (some 59) zm27 HT_ ?_
     refine zp 27 (some 60) zm28 HT_ ?_
     refine zp 28 (some 61) zm29 HT_ ?_
     refine zp 29 (some 62) zm30 HT_ ?_
     by_cases c22 : ((rd_T43 l0_2 (ji19)).f1) ≥ ((rd_T43 l0_2 x3_2).f1)
     ·
      rw [if_pos c22] at H
      have c22b0 : decide (((rd_T43 l0_2 x3_2).f1) ≤ ((rd_T43 l0_2 (ji19)).f1)) = true := decide_eq_true c22
      clear c22
      obtain rfl := Option.some.inj H
      (try rw [c22b0])
      refine zu 30 (some 63) zm31 HT_ ?_
      refine zu 31 (some 64) zm32 HT_ ?_
      refine zu 32 (some 65) zm33 HT_ ?_
      refine zu 33 (some 66) zm34 HT_ ?_
      refine zp 34 (some 67) zm35 HT_ ?_
      refine zp 35 (some 68) zm36 HT_ ?_
      refine zu 36 (some 69) zm37 HT_ ?_
      refine zu 37 (some 70) zm38 HT_ ?_
      refine zu 38 (some 71) zm39 HT_ ?_
      refine zu 39 (some 72) zm40 HT_ ?_
      refine zp 40 (some 73) zm41 HT_ ?_
      refine zp 41 (some 74) zm42 HT_ ?_
      refine zu 42 (some 75) zm43 HT_ ?_
      refine zu 43 (some 76) zm44 HT_ ?_
      refine zu 44 (some 77) zm45 HT_ ?_
      refine zu 45 (some 78) zm46 HT_ ?_
      refine zu 46 (some 79) zm47 HT_ ?_
      refine zu 47 (some 80) zm48 HT_ ?_
      refine zu 48 (some 81) zm49 HT_ ?_
      refine zp 49 (some 82) zm50 HT_ ?_
      refine done_ (done_of HT_.out (by kernel_rfl)) ?_
      try go_wp2
      go_ret
      exact ⟨by rfl, by repeat ((with_reducible first | exact HB.out | apply pw_below_drewN))⟩
     rw [if_neg c22] at H
     have c22b0 : decide (((rd_T43 l0_2 x3_2).f1) ≤ ((rd_T43 l0_2 (ji19)).f1)) = false := decide_eq_false c22
     clear c22
     replace H := Option.bind_eq_some_iff.mp H
     obtain ⟨t113, A290, H⟩ := H
     (try dsimp -simprocs only at H)
     have A29 := Aside0.mk A290
     clear A290
     (try rw [c22b0])
     refine zp 30 (some 63) zm31 HT_ ?_
     refine zt 31 (some 64) zm32 HT_ HW_ hHeld ?_
     refine one_ (i := 32) (N := some 65) zm33 rfl rfl (one_of HT_.out (by kernel_rfl)) (by decide) (fun K hK => ?_)
     refine goes_ Tryd.func33 (by kernel_rfl) rfl #[.int .i64 ((rd_T43 l0_2 x3_2).f2), .int .i64 0, .int .i64 3] (by rfl) rfl rfl zb1_4 ?_
     by_cases c30 : t113 = true
     rotate_left
     ·
      replace c30 := Bool.eq_false_iff.mpr c30
      subst c30
      rw [if_neg (show ¬ (false = true) by decide)] at H
      obtain rfl := Option.some.inj H
      with_reducible refine (spec_l03Is.calls ((rd_T43 l0_2 x3_2).f2) 0 3 false _ A29.out).mono ?_
      rintro e w' ⟨rfl, ⟨nd, rfl⟩⟩
      refine ⟨_, rfl, ?_⟩
      refine hK.out _ _ zk1_4 (fun hHeld => ?_)
      clear hK K
      refine zn (some 65) ?_
      refine zp 33 (some 66) zm34 HT_ ?_
      refine zp 34 (some 67) zm35 HT_ ?_
      refine zp 35 (some 68) zm36 HT_ ?_
      refine zu 36 (some 69) zm37 HT_ ?_
      refine zu 37 (some 70) zm38 HT_ ?_
      refine zu 38 (some 71) zm39 HT_ ?_
      refine zu 39 (some 72) zm40 HT_ ?_
      refine zp 40 (some 73) zm41 HT_ ?_
      refine zp 41 (some 74) zm42 HT_ ?_
      refine zu 42 (some 75) zm43 HT_ ?_
      refine zu 43 (some 76) zm44 HT_ ?_
      refine zu 44 (some 77) zm45 HT_ ?_
      refine zu 45 (some 78) zm46 HT_ ?_
      refine zu 46 (some 79) zm47 HT_ ?_
      refine zu 47 (some 80) zm48 HT_ ?_
      refine zu 48 (some 81) zm49 HT_ ?_
      refine zp 49 (some 82) zm50 HT_ ?_
      refine done_ (done_of HT_.out (by kernel_rfl)) ?_
      try go_wp2
      go_ret
      exact ⟨by rfl, by repeat ((with_reducible first | exact HB.out | apply pw_below_drewN))⟩
     subst c30
     rw [if_pos rfl] at H
     with_reducible refine (spec_l03Is.calls ((rd_T43 l0_2 x3_2).f2) 0 3 true _ A29.out).mono ?_
     rintro e w' ⟨rfl, ⟨nd, rfl⟩⟩
     refine ⟨_, rfl, ?_⟩
     refine hK.out _ _ zk1_4 (fun hHeld => ?_)
     clear hK K
     refine zn (some 65) ?_
     refine zp 33 (some 66) zm34 HT_ ?_
     refine zp 34 (some 67) zm35 HT_ ?_
     refine zp 35 (some 68) zm36 HT_ ?_
     refine zp 36 (some 69) zm37 HT_ ?_
     refine zt 37 (some 70) zm38 HT_ HW_ hHeld ?_
     refine zp 38 (some 71) zm39 HT_ ?_
     refine zp 39 (some 72) zm40 HT_ ?_
     refine zp 40 (some 73) zm41 HT_ ?_
     refine zp 41 (some 74) zm42 HT_ ?_
     by_cases c31 : (((rd_T43 l0_2 x3_2).f3).size : Int) > 64
     ·
      rw [if_pos c31] at H
      have c31b0 : decide (64 < (((rd_T43 l0_2 x3_2).f3).size : Int)) = true := decide_eq_true c31
      have c31b1 : decide (64 < ((rd_T43 l0_2 x3_2).f3).size) = true := decide_eq_true (by omega)
      clear c31
      obtain rfl := Option.some.inj H
      (try rw [c31b0])
      (try rw [c31b1])
      refine zu 42 (some 75) zm43 HT_ ?_
      refine zu 43 (some 76) zm44 HT_ ?_
      refine zu 44 (some 77) zm45 HT_ ?_
      refine zu 45 (some 78) zm46 HT_ ?_
      refine zu 46 (some 79) zm47 HT_ ?_
      refine zu 47 (some 80) zm48 HT_ ?_
      refine zu 48 (some 81) zm49 HT_ ?_
      refine zp 49 (some 82) zm50 HT_ ?_
      refine done_ (done_of HT_.out (by kernel_rfl)) ?_
      try go_wp2
      go_ret
      exact ⟨by rfl, by repeat ((with_reducible first | exact HB.out | apply pw_below_drewN))⟩
     rw [if_neg c31] at H
     have c31b0 : decide (64 < (((rd_T43 l0_2 x3_2).f3).size : Int)) = false := decide_eq_false c31
     have c31b1 : decide (64 < ((rd_T43 l0_2 x3_2).f3).size) = false := decide_eq_false (by omega)
     clear c31
     (try rw [c31b0])
     (try rw [c31b1])
     refine zp 42 (some 75) zm43 HT_ ?_
     refine zp 45 (some 78) zm51 HT_ ?_
     refine zt 43 (some 76) zm52 HT_ HW_ hHeld ?_
     refine zp 44 (some 77) zm46 HT_ ?_
     refine zt 46 (some 79) zm47 HT_ HW_ hHeld ?_
     refine zp 47 (some 80) zm48 HT_ ?_
     refine zp 48 (some 81) zm49 HT_ ?_
     refine zp 49 (some 82) zm50 HT_ ?_
     refine done_ (done_of HT_.out (by kernel_rfl)) ?_
     by_cases c38 : ((((rd_T43 l0_2 x3_2).f3).toList == ([] : List UInt8)) != (((rd_T43 l0_2 x3_2).f2) == 0)) = true
     ·
      rw [if_pos c38] at H
      have c38b0 : ((((rd_T43 l0_2 x3_2).f3).toList == ([] : List UInt8)) != (((rd_T43 l0_2 x3_2).f2) == 0)) = true := c38
      try have c38b9 : (((rd_T43 l0_2 x3_2).f3).toList.isEmpty == (((rd_T43 l0_2 x3_2).f2) == 0)) = false := by have hem_ : ∀ l : List UInt8, l.isEmpty = (l == []) := (fun l => by cases l <;> rfl); simp only [hem_]; have h_ : (!((((rd_T43 l0_2 x3_2).f3).toList == ([] : List UInt8)) == (((rd_T43 l0_2 x3_2).f2) == 0))) = true := c38b0; generalize ((((rd_T43 l0_2 x3_2).f3).toList == ([] : List UInt8)) == (((rd_T43 l0_2 x3_2).f2) == 0)) = q_ at h_ ⊢; cases q_ <;> first | rfl | cases h_
      (try (have c38b1 : decide ((((rd_T43 l0_2 x3_2).f3).toList == ([] : List UInt8)) = (((rd_T43 l0_2 x3_2).f2) == 0)) = false := by simpa using c38))
      (try (have c38b2 : ((((rd_T43 l0_2 x3_2).f3).toList == ([] : List UInt8)) == (((rd_T43 l0_2 x3_2).f2) == 0)) = false := by simpa using c38))
      (try (have c38b3 : ¬ ((((rd_T43 l0_2 x3_2).f3).toList == ([] : List UInt8)) = (((rd_T43 l0_2 x3_2).f2) == 0)) := by simpa using c38))
      clear c38
      obtain rfl := Option.some.inj H
      (try rw [c38b0])
      (try rw [c38b9])
      (try rw [c38b1])
      (try rw [c38b2])
      (try rw [c38b3])
      try go_wp2
      go_ret
      exact ⟨by rfl, by repeat ((with_reducible first | exact HB.out | apply pw_below_drewN))⟩
     rw [if_neg c38] at H
     have c38b0 : ((((rd_T43 l0_2 x3_2).f3).toList == ([] : List UInt8)) != (((rd_T43 l0_2 x3_2).f2) == 0)) = false := by simpa using c38
     try have c38b9 : (((rd_T43 l0_2 x3_2).f3).toList.isEmpty == (((rd_T43 l0_2 x3_2).f2) == 0)) = true := by have hem_ : ∀ l : List UInt8, l.isEmpty = (l == []) := (fun l => by cases l <;> rfl); simp only [hem_]; have h_ : (!((((rd_T43 l0_2 x3_2).f3).toList == ([] : List UInt8)) == (((rd_T43 l0_2 x3_2).f2) == 0))) = false := c38b0; generalize ((((rd_T43 l0_2 x3_2).f3).toList == ([] : List UInt8)) == (((rd_T43 l0_2 x3_2).f2) == 0)) = q_ at h_ ⊢; cases q_ <;> first | rfl | cases h_
     (try (have c38b1 : decide ((((rd_T43 l0_2 x3_2).f3).toList == ([] : List UInt8)) = (((rd_T43 l0_2 x3_2).f2) == 0)) = true := by simpa using c38))
     (try (have c38b2 : ((((rd_T43 l0_2 x3_2).f3).toList == ([] : List UInt8)) == (((rd_T43 l0_2 x3_2).f2) == 0)) = true := by simpa using c38))
     clear c38
     have H' := Aside0.mk H
     clear H
     (try rw [c38b0])
     (try rw [c38b9])
     (try rw [c38b1])
     (try rw [c38b2])
     try go_wp2
     go_roundg k2
     case measure => have := HJ1.out; have := HK2.out; omega
     case rel => exact ⟨(wrap64 (x3_2 + 1)), zb2_4, H', ⟨by have := HJ1.out; have := HK2.out; omega⟩, ⟨by (with_reducible repeat ((refine blk_drewN ?_ _))); exact BK105.out⟩, ⟨by repeat ((with_reducible first | exact HB.out | apply pw_below_drewN))⟩⟩
end Go.Proofs.YtfijkimkdccioaaDoor.QFnDialback
