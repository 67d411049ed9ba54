-- laid by this session's own runner (wip/print2.py): not a printed file
import Derived.Test.YtfijkimkdccioaaDoorQFnDialbackx0
import Derived.Test.YtfijkimkdccioaaDoorQFnDialbackx2
import Derived.Test.YtfijkimkdccioaaDoorQFnDialbackx6
import Derived.Test.YtfijkimkdccioaaDoorQFnDialbackx7
namespace Go.Proofs.YtfijkimkdccioaaDoor.QFnDialback
open Go.RowKit Go.Proofs.YtfijkimkdccioaaDoorW.PrintWords Go.Proofs.YtfijkimkdccioaaDoorW.PrintLast Go.Proofs.YtfijkimkdccioaaDoorW.PrintMore
attribute [local go_sem] max2_int min2_int max_two min_two max_three min_three max_four min_four   -- for this text's walks alone
set_option linter.unusedVariables false
set_option linter.unusedSimpArgs false

abbrev zm0_15 : Array Bool := pm 0 11
abbrev zm1_15 : Array Bool := pm 1 10
abbrev zm2_15 : Array Bool := #[I,O,I,O,O,O,O,O,O,O,O]
abbrev zm3_15 : Array Bool := #[I,O,I,I,O,O,O,O,O,O,O]
abbrev zm4_15 : Array Bool := pm 4 7
abbrev zm5_15 : Array Bool := pm 5 6
abbrev zm6_15 : Array Bool := pm 6 5
abbrev zm7_15 : Array Bool := pm 10 1
abbrev zm8_15 : Array Bool := pm 7 4
abbrev zm9_15 : Array Bool := #[I,I,I,I,I,I,O,O,O,I,O]
abbrev zm10_15 : Array Bool := pm 8 3
abbrev zm11_15 : Array Bool := pm 9 2
abbrev zm12_15 : Array Bool := #[I,I,I,I,I,I,I,O,O,I,O]
abbrev zm13_15 : Array Bool := #[I,I,I,I,I,I,I,I,O,I,O]
abbrev zm14_15 : Array Bool := pm 11 0
abbrev zm15_15 : Array Bool := pm 0 7
abbrev zm16_15 : Array Bool := #[O,I,O,O,O,O,O]
abbrev zm17_15 : Array Bool := #[O,I,I,O,O,O,O]
abbrev zm18_15 : Array Bool := pm 3 4
abbrev zm19_15 : Array Bool := pm 4 3
abbrev zm20_15 : Array Bool := pm 5 2
abbrev zm21_15 : Array Bool := pm 6 1
abbrev zm22_15 : Array Bool := pm 7 0
theorem bcq_15 {w : World} {g t : Nat} {cs : Array Value} {v : Value} (h : w.heap[g]? = some (.cells cs t (0, 0))) (j : Nat) (e : cs[j]? = some v := by rfl) : w.cell? ⟨g, j, none⟩ = some v := (blk_cell h j).trans e
theorem zb0_15 {P : Prop} (h : P := by repeat ((with_reducible (exact HB.out)))) : P := h
theorem zb1_15 {P : Prop} (h : P := by (try simp only [List.map_toArray, List.map_cons, List.map_nil]); rfl) : P := h
theorem zb2_15 {P : Prop} (h : P := by exact BK510.out) : P := h
theorem zb3_15 {P : Prop} (h : P := by repeat ((with_reducible (exact HB.out)))) : P := h
theorem zb4_15 {P : Prop} (h : P := by exact HO520.out) : P := h
theorem zb5_15 {P : Prop} (h : P := by rw [hg]; exact Nat.ne_of_lt (blk_lt (g := gb510) (o := .cells #[.string (⟨#[]⟩ : ByteArray), .int .i64 0, .slice none 0 0] 25 (0, 0)) (by exact BK510.out))) : P := h
theorem zb6_15 {P : Prop} (h : P := by rw [hg]; exact Nat.ne_of_gt (blk_lt (g := gb510) (o := .cells #[.string (⟨#[]⟩ : ByteArray), .int .i64 0, .slice none 0 0] 25 (0, 0)) (by exact BK510.out))) : P := h
theorem zb7_15 {P : Prop} (h : P := by repeat ((with_reducible first | exact HB.out | refine below_set ?_ GE524.out))) : P := h
theorem zb8_15 {P : Prop} (h : P := by exact BK524.out) : P := h
theorem zb9_15 {P : Prop} (h : P := by exact HO527.out) : P := h
theorem zb10_15 {P : Prop} (h : P := by (rw [add_block]; exact Kd.own_blk (IsS60.own_ne HI515.out HO_525002.out (by decide)))) : P := h
theorem zb11_15 {P : Prop} (h : P := by exact HO_525002.out) : P := h
theorem zb12_15 {P : Prop} (h : P := by rw [hg]; exact (below_size (by repeat ((with_reducible (exact HB.out)))))) : P := h
theorem zb13_15 {P : Prop} (h : P := by rw [hg]; exact Nat.ne_of_lt (blk_lt (g := gb524) (o := .cells #[.string t516, .int .i64 t517, .slice (some ad544) t518.length co14] 25 (0, 0)) (by exact BK524.out))) : P := h
theorem zb14_15 {P : Prop} (h : P := by rw [hg]; exact Nat.ne_of_gt (blk_lt (g := gb524) (o := .cells #[.string t516, .int .i64 t517, .slice (some ad544) t518.length co14] 25 (0, 0)) (by exact BK524.out))) : P := h
theorem zb15_15 {P : Prop} (h : P := by exact BK545.out) : P := h
theorem zb16_15 {P : Prop} (h : P := by repeat ((with_reducible (exact HI515.out)))) : P := h
theorem zb17_15 {P : Prop} (h : P := by repeat ((with_reducible first | exact HB.out | refine below_set ?_ GE545.out))) : P := h
theorem zb18_15 {P : Prop} (h : P := by (rw [add_block]; exact Kd.own_blk (Kd.R_away HO_525002.out (fun _ hk => hk)))) : P := h
theorem zb19_15 {P : Prop} (h : P := by exact (Kd.R_mono (rfa (rfa (rfa (rfa (Kd.R_mono HO_525002.out (fun k_ hk => (⟨hk, hk⟩ : _ ∧ k_ ≠ gb545))) (fun _ h => h.2)) (fun _ h => h.2)) (fun _ h => h.2)) (fun _ h => h.2)) (fun _ h_ => h_.1))) : P := h
theorem zb20_15 {P : Prop} (h : P := by exact HO_554002.out) : P := h
theorem zb21_15 {P : Prop} (h : P := by exact BK553.out) : P := h
theorem zb22_15 {P : Prop} (h : P := by repeat ((with_reducible (exact HB.out)))) : P := h
theorem zb23_15 {P : Prop} (h : P := by repeat ((with_reducible (exact HI515.out)))) : P := h
theorem zk0_15 {P : Prop} (h : P := by exact ⟨(blk_cell BK524.out 0).trans rfl, (blk_cell BK524.out 1).trans rfl, (blk_cell BK524.out 2).trans rfl, HS3_, HS4_, HS5_, HS6_⟩) : P := h
theorem zk1_15 {P : Prop} (h : P := by exact ⟨(blk_cell BK524.out 0).trans rfl, (blk_cell BK524.out 1).trans rfl, (blk_cell BK524.out 2).trans rfl⟩) : P := h
/-! ### spec_DrawDbTrusts: function 16 -/
mutual
def spec_DrawDbTrusts.j0 : Nat → ByteArray → Int → Bool → List Int → Int → Int → Int → ByteArray → Int → List (S43) → Option (ByteArray × Int × (List (S43)) × ByteArray × Int)
 | 0, _, _, _, _, _, _, _, _, _, _ => none
 | k + 1, x7, x8, x29, x516000, x516001, x516002, x516003, x525000, x525001, x525002 => if x29 = true then ((spec_l01Src_n.f x516000 x516001 x516002 x516003 (x525002.length : Int)).bind fun bt540 => (if 0 ≤ bt540.1 then (if bt540.1 < (x525002.length : Int) then ((spec_DbResult.f k x525000 x525001 x525002 ((rd_T43 x525002 bt540.1).f1) (⟨#[107]⟩ : ByteArray)).bind fun bt546 => (if bt546.2.2.2.2 = 0 then (spec_DrawDbTrusts.j1 k x7 ((rd_T43 x525002 bt540.1).f1) x516000 bt540.2.1 bt540.2.2.1 bt540.2.2.2 bt546.1 bt546.2.1 bt546.2.2.1 ((rd_T43 x525002 bt540.1).f0) ((rd_T43 x525002 bt540.1).f1) ((rd_T43 x525002 bt540.1).f2) ((rd_T43 x525002 bt540.1).f3)) else (spec_DrawDbTrusts.j1 k x7 ((rd_T43 x525002 bt540.1).f1) x516000 bt540.2.1 bt540.2.2.1 bt540.2.2.2 x525000 x525001 x525002 ((rd_T43 x525002 bt540.1).f0) ((rd_T43 x525002 bt540.1).f1) ((rd_T43 x525002 bt540.1).f2) ((rd_T43 x525002 bt540.1).f3)))) else (none)) else (none))) else (some (x525000, x525001, x525002, x7, x8))
def spec_DrawDbTrusts.j1 : Nat → ByteArray → Int → List Int → Int → Int → Int → ByteArray → Int → List (S43) → ByteArray → Int → Int → ByteArray → Option (ByteArray × Int × (List (S43)) × ByteArray × Int)
 | 0, _, _, _, _, _, _, _, _, _, _, _, _, _ => none
 | k + 1, x7, x8, x516000, x516001, x516002, x516003, x525000, x525001, x525002, x546000, x546001, x546002, x546003 => (spec_l01Src_one.f x516000 x516001 x516002 x516003 4).bind fun bt554 => ((spec_DbVerified.f k x525000 x525001 x525002 x8 (!bt554.1)).bind fun bt558 => (if bt558.2.2.2.2 = 0 then ((spec_l01Src_one.f x516000 bt554.2.1 bt554.2.2.1 bt554.2.2.2 5).bind fun bt565 => (if bt565.1 = true then (some (bt558.1, bt558.2.1, bt558.2.2.1, x7, x8)) else (some (bt558.1, bt558.2.1, bt558.2.2.1, x546000, x8)))) else ((spec_l01Src_one.f x516000 bt554.2.1 bt554.2.2.1 bt554.2.2.2 5).bind fun bt569 => (if bt569.1 = true then (some (x525000, x525001, x525002, x7, x8)) else (some (x525000, x525001, x525002, x546000, x8))))))
end
def spec_DrawDbTrusts.f (k : Nat) (l0 : List Int) : Option (ByteArray × Int × (List (S43)) × ByteArray × Int) := (spec_l01Source.f k l0).bind fun bt511 => ((spec_l01Src_l06Dialback.f k bt511.1 bt511.2.1 bt511.2.2.1 bt511.2.2.2).bind fun bt516 => ((spec_l01Src_pick.f bt511.1 bt516.2.2.2.1 bt516.2.2.2.2.1 bt516.2.2.2.2.2 (([(⟨#[98]⟩ : ByteArray), (⟨#[99, 46, 100]⟩ : ByteArray)] : List ByteArray))).bind fun bt528 => ((spec_l01Src_n.f bt511.1 bt528.2.1 bt528.2.2.1 bt528.2.2.2 6).bind fun bt532 => (if (bt516.2.2.1.length : Int) > 0 then ((spec_l01Src_one.f bt511.1 bt532.2.1 bt532.2.2.1 bt532.2.2.2 3).bind fun bt536 => (spec_DrawDbTrusts.j0 k bt528.1 (wrap64 (1 + bt532.1)) (!bt536.1) bt511.1 bt536.2.1 bt536.2.2.1 bt536.2.2.2 bt516.1 bt516.2.1 bt516.2.2.1)) else (spec_DrawDbTrusts.j0 k bt528.1 (wrap64 (1 + bt532.1)) false bt511.1 bt532.2.1 bt532.2.2.1 bt532.2.2.2 bt516.1 bt516.2.1 bt516.2.2.1)))))
theorem spec_DrawDbTrusts.mono_l : ∀ k, (∀ y0 y1 y2 y3 y4 y5 y6 y7 y8 y9, LeO (spec_DrawDbTrusts.j0 k y0 y1 y2 y3 y4 y5 y6 y7 y8 y9) (spec_DrawDbTrusts.j0 (k + 1) y0 y1 y2 y3 y4 y5 y6 y7 y8 y9)) ∧ (∀ y0 y1 y2 y3 y4 y5 y6 y7 y8 y9 y10 y11 y12, LeO (spec_DrawDbTrusts.j1 k y0 y1 y2 y3 y4 y5 y6 y7 y8 y9 y10 y11 y12) (spec_DrawDbTrusts.j1 (k + 1) y0 y1 y2 y3 y4 y5 y6 y7 y8 y9 y10 y11 y12))
 | 0 => ⟨fun _ _ _ _ _ _ _ _ _ _ r h => by simp [spec_DrawDbTrusts.j0] at h, fun _ _ _ _ _ _ _ _ _ _ _ _ _ r h => by simp [spec_DrawDbTrusts.j1] at h⟩
 | k + 1 => by
  obtain ⟨ih0, ih1⟩ := spec_DrawDbTrusts.mono_l k
  refine ⟨?_, ?_⟩
  ·
   intro y0 y1 y2 y3 y4 y5 y6 y7 y8 y9
   unfold spec_DrawDbTrusts.j0
   repeat' first
   | (with_reducible exact ih0 _ _ _ _ _ _ _ _ _ _)
   | (with_reducible exact ih1 _ _ _ _ _ _ _ _ _ _ _ _ _)
   | (with_reducible exact spec_DbResult.mono _ _ _ _ _ _)
   | (with_reducible exact spec_DbVerified.mono _ _ _ _ _ _)
   | (with_reducible exact spec_l01Source.mono _ _)
   | (with_reducible exact spec_l01Src_l06Dialback.mono _ _ _ _ _)
   | (with_reducible exact LeO.refl _)
   | (with_reducible exact LeO.none _)
   | (with_reducible refine LeO.ite ?_ ?_)
   | (with_reducible refine LeO.bind ?_ (fun _ => ?_))
   | exact ih0 _ _ _ _ _ _ _ _ _ _
   | exact ih1 _ _ _ _ _ _ _ _ _ _ _ _ _
   | exact spec_DbResult.mono _ _ _ _ _ _
   | exact spec_DbVerified.mono _ _ _ _ _ _
   | exact spec_l01Source.mono _ _
   | exact spec_l01Src_l06Dialback.mono _ _ _ _ _
   | exact LeO.none _
   | refine LeO.ite ?_ ?_
   | refine LeO.bind ?_ (fun _ => ?_)
  ·
   intro y0 y1 y2 y3 y4 y5 y6 y7 y8 y9 y10 y11 y12
   unfold spec_DrawDbTrusts.j1
   repeat' first
   | (with_reducible exact ih0 _ _ _ _ _ _ _ _ _ _)
   | (with_reducible exact ih1 _ _ _ _ _ _ _ _ _ _ _ _ _)
   | (with_reducible exact spec_DbResult.mono _ _ _ _ _ _)
   | (with_reducible exact spec_DbVerified.mono _ _ _ _ _ _)
   | (with_reducible exact spec_l01Source.mono _ _)
   | (with_reducible exact spec_l01Src_l06Dialback.mono _ _ _ _ _)
   | (with_reducible exact LeO.refl _)
   | (with_reducible exact LeO.none _)
   | (with_reducible refine LeO.ite ?_ ?_)
   | (with_reducible refine LeO.bind ?_ (fun _ => ?_))
   | exact ih0 _ _ _ _ _ _ _ _ _ _
   | exact ih1 _ _ _ _ _ _ _ _ _ _ _ _ _
   | exact spec_DbResult.mono _ _ _ _ _ _
   | exact spec_DbVerified.mono _ _ _ _ _ _
   | exact spec_l01Source.mono _ _
   | exact spec_l01Src_l06Dialback.mono _ _ _ _ _
   | exact LeO.none _
   | refine LeO.ite ?_ ?_
   | refine LeO.bind ?_ (fun _ => ?_)
theorem spec_DrawDbTrusts.mono : ∀ a0 k, LeO (spec_DrawDbTrusts.f k a0) (spec_DrawDbTrusts.f (k + 1) a0) := by
 intro a0 k
 obtain ⟨ih0, ih1⟩ := spec_DrawDbTrusts.mono_l k
 unfold spec_DrawDbTrusts.f
 repeat' first
   | (with_reducible exact ih0 _ _ _ _ _ _ _ _ _ _)
   | (with_reducible exact ih1 _ _ _ _ _ _ _ _ _ _ _ _ _)
   | (with_reducible exact spec_DbResult.mono _ _ _ _ _ _)
   | (with_reducible exact spec_DbVerified.mono _ _ _ _ _ _)
   | (with_reducible exact spec_l01Source.mono _ _)
   | (with_reducible exact spec_l01Src_l06Dialback.mono _ _ _ _ _)
   | (with_reducible exact LeO.refl _)
   | (with_reducible exact LeO.none _)
   | (with_reducible refine LeO.ite ?_ ?_)
   | (with_reducible refine LeO.bind ?_ (fun _ => ?_))
   | exact ih0 _ _ _ _ _ _ _ _ _ _
   | exact ih1 _ _ _ _ _ _ _ _ _ _ _ _ _
   | exact spec_DbResult.mono _ _ _ _ _ _
   | exact spec_DbVerified.mono _ _ _ _ _ _
   | exact spec_l01Source.mono _ _
   | exact spec_l01Src_l06Dialback.mono _ _ _ _ _
   | exact LeO.none _
   | refine LeO.ite ?_ ?_
   | refine LeO.bind ?_ (fun _ => ?_)
def spec_DrawDbTrusts.T6 : Bool × List (List Nat × List Nat) := (true, [([], []), ([0], [0]), ([], []), ([], []), ([3], [3]), ([4], [4]), ([2, 5], [2, 5]), ([1, 6], [1, 6]), ([7], [7]), ([], []), ([9, 8, 6, 0, 1, 2, 3, 4, 5, 6, 7, 8, 9], [8, 9])])
def spec_DrawDbTrusts.B6 : List Nat := [0, 1, 0, 0, 8, 24, 60, 127, 255, 0, 1023]
theorem spec_DrawDbTrusts.tab6 : rtab .any (opsOf Tryd.f16 6) = spec_DrawDbTrusts.T6 := by kernel_rfl
theorem spec_DrawDbTrusts.bits6 : waitsOk spec_DrawDbTrusts.T6.2 spec_DrawDbTrusts.B6 = true := by kernel_rfl
set_option maxHeartbeats 8000000 in
set_option maxRecDepth 100000 in
theorem spec_DrawDbTrusts.calls (k : Nat) (A0 : Option Addr) (c0 : Nat) (l0 : List Int) (r1 : ByteArray) (r2 : Int) (r3 : List (S43)) (r4 : ByteArray) (r5 : Int) (w : World) (hr0 : Kd.C (Kd.int .u8) w A0 l0.length l0) (hc0 : l0.length ≤ c0) (h : spec_DrawDbTrusts.f k l0 = some (r1, r2, r3, r4, r5)) :
  Calls Tryd.prog 16 #[.slice A0 l0.length c0] w fun e w' => ∃ v2_ : Value, e = .returned (.tuple #[.agg #[.string r1, .int .i64 r2, v2_], .string r4, .int .i64 r5]) ∧ Kd.R k43 43 w' w.heap.size (fun _ => True) v2_ r3 ∧ Below w.heap.size w w' := by
 have hu25 := Tryd.underlying25
 have hu43 := Tryd.underlying43
 have hu29 := Tryd.underlying29
 have HR0 := Aside0.mk hr0
 have HC0 := Aside0.mk hc0
 clear hr0 hc0
 have HB := Aside0.mk (Below.refl w.heap.size w)
 have H : ((spec_l01Source.f k l0).bind fun bt511 => ((spec_l01Src_l06Dialback.f k bt511.1 bt511.2.1 bt511.2.2.1 bt511.2.2.2).bind fun bt516 => ((spec_l01Src_pick.f bt511.1 bt516.2.2.2.1 bt516.2.2.2.2.1 bt516.2.2.2.2.2 (([(⟨#[98]⟩ : ByteArray), (⟨#[99, 46, 100]⟩ : ByteArray)] : List ByteArray))).bind fun bt528 => ((spec_l01Src_n.f bt511.1 bt528.2.1 bt528.2.2.1 bt528.2.2.2 6).bind fun bt532 => (if (bt516.2.2.1.length : Int) > 0 then ((spec_l01Src_one.f bt511.1 bt532.2.1 bt532.2.2.1 bt532.2.2.2 3).bind fun bt536 => (spec_DrawDbTrusts.j0 k bt528.1 (wrap64 (1 + bt532.1)) (!bt536.1) bt511.1 bt536.2.1 bt536.2.2.1 bt536.2.2.2 bt516.1 bt516.2.1 bt516.2.2.1)) else (spec_DrawDbTrusts.j0 k bt528.1 (wrap64 (1 + bt532.1)) false bt511.1 bt532.2.1 bt532.2.2.1 bt532.2.2.2 bt516.1 bt516.2.1 bt516.2.2.1)))))) = some (r1, r2, r3, r4, r5) := h
 clear h
 replace H := Option.bind_eq_some_iff.mp H
 obtain ⟨⟨t511, t512, t513, t514⟩, A20, H⟩ := H
 (try dsimp -simprocs only at H)
 have A2 := Aside0.mk A20
 clear A20
 replace H := Option.bind_eq_some_iff.mp H
 obtain ⟨⟨t516, t517, t518, t521, t522, t523⟩, A30, H⟩ := H
 (try dsimp -simprocs only at H)
 have A3 := Aside0.mk A30
 clear A30
 obtain ⟨y525, hy525⟩ : ∃ y_ : List ByteArray, y_ = (([(⟨#[98]⟩ : ByteArray), (⟨#[99, 46, 100]⟩ : ByteArray)] : List ByteArray)) := ⟨_, rfl⟩
 replace H : ((spec_l01Src_pick.f t511 t521 t522 t523 y525).bind fun bt528 => ((spec_l01Src_n.f t511 bt528.2.1 bt528.2.2.1 bt528.2.2.2 6).bind fun bt532 => (if (t518.length : Int) > 0 then ((spec_l01Src_one.f t511 bt532.2.1 bt532.2.2.1 bt532.2.2.2 3).bind fun bt536 => (spec_DrawDbTrusts.j0 k bt528.1 (wrap64 (1 + bt532.1)) (!bt536.1) t511 bt536.2.1 bt536.2.2.1 bt536.2.2.2 t516 t517 t518)) else (spec_DrawDbTrusts.j0 k bt528.1 (wrap64 (1 + bt532.1)) false t511 bt532.2.1 bt532.2.2.1 bt532.2.2.2 t516 t517 t518)))) = some (r1, r2, r3, r4, r5) := by (rw [hy525]; with_reducible exact H)
 have Ny525 := Aside0.mk hy525
 clear hy525
 replace H := Option.bind_eq_some_iff.mp H
 obtain ⟨⟨t528, t529, t530, t531⟩, A40, H⟩ := H
 (try dsimp -simprocs only at H)
 have A4 := Aside0.mk A40
 clear A40
 replace H := Option.bind_eq_some_iff.mp H
 obtain ⟨⟨t532, t533, t534, t535⟩, A50, H⟩ := H
 (try dsimp -simprocs only at H)
 have A5 := Aside0.mk A50
 clear A50
 have HC6 := Aside0.mk H
 clear H
 go_enter Tryd.func16, Tryd.ntmps16
 go_upto_region 5 with (first | ((with_reducible refine gate_dst (N := 2) rfl ?_); refine box_event ?hg (N := 2) ?hd (cs := #[.string (⟨#[]⟩ : ByteArray), .int .i64 0, .slice none 0 0]) (t := 25) ?hr ?_; (case hd => rfl); (case hg => rfl); (case hr => (go_simp; done)); intro gb510 hg w7 hbox hb; have BK510 := Aside0.mk (hbox); have GW510 := Aside0.mk ((by rw [hg]; exact (below_size zb0_15) : w.heap.size ≤ gb510)); have GE510 := Aside0.mk ((by rw [hg]; exact (below_size zb0_15) : w.heap.size ≤ gb510)); replace HB := Aside0.mk (below_step zb0_15 hb); clear hb hbox hg) | ((with_reducible refine gate_callee (f := 19) rfl ?_); refine goesL_ (some 12) rfl rfl Tryd.func19 (by kernel_rfl) rfl #[.slice A0 l0.length c0] rfl zb1_15 ?_; (with_reducible refine (spec_l01Source.calls k _ _ l0 t511 t512 t513 t514 w _ ?side1 ?side2 ?side3 A2.out).mono ?_); (case side1 => repeat ((with_reducible (exact HB.out)))); (case side2 => exact HR0.out); (case side3 => exact HC0.out); rintro e w8 ⟨g515, rfl, hi, hb, hb2⟩; refine ⟨_, rfl, ?_⟩; replace HB := Aside0.mk (hb); have HI515 := Aside0.mk (hi); have NB515_510 := Aside0.mk (IsS60.ne_blk hi (blk_below (g := gb510) (o := .cells #[.string (⟨#[]⟩ : ByteArray), .int .i64 0, .slice none 0 0] 25 (0, 0)) zb2_15 hb2) (by decide)); have NB510_515 := Aside0.mk (Ne.symm (IsS60.ne_blk hi (blk_below (g := gb510) (o := .cells #[.string (⟨#[]⟩ : ByteArray), .int .i64 0, .slice none 0 0] 25 (0, 0)) zb2_15 hb2) (by decide))); replace BK510 := Aside0.mk (blk_below (g := gb510) (o := .cells #[.string (⟨#[]⟩ : ByteArray), .int .i64 0, .slice none 0 0] 25 (0, 0)) zb2_15 hb2); (try clear hb); (try clear hb2); (try clear hi)) | ((with_reducible refine gate_callee (f := 20) rfl ?_); refine goesL_ (some 14) rfl rfl Tryd.func20 (by kernel_rfl) rfl #[.pointer (some ⟨g515, 0, none⟩)] rfl zb1_15 ?_; (with_reducible refine (spec_l01Src_l06Dialback.calls k g515 t511 t512 t513 t514 t516 t517 t518 t521 t522 t523 w _ ?side1 ?side2 A3.out).mono ?_); (case side1 => repeat ((with_reducible (exact HI515.out)))); (case side2 => repeat ((with_reducible (exact HB.out)))); rintro e w9 ⟨v519, rfl, ho0, hi, hb, hk⟩; refine ⟨_, rfl, ?_⟩; replace BK510 := Aside0.mk (KeepBut.blk hk (g' := gb510) (o := .cells #[.string (⟨#[]⟩ : ByteArray), .int .i64 0, .slice none 0 0] 25 (0, 0)) zb2_15 NB510_515.out (by simp)); have HO520 := Aside0.mk (Kd.R_lower ho0 (below_size zb3_15)); replace HB := Aside0.mk (hb); replace HI515 := Aside0.mk (hi); (try clear hb); (try clear hk); (try clear hi); (try clear ho0)) | ((with_reducible refine gate_dst (N := 6) rfl ?_); refine box_event ?hg (N := 6) ?hd (cs := #[.string (⟨#[]⟩ : ByteArray), .int .i64 0, .slice none 0 0]) (t := 25) ?hr ?_; (case hd => rfl); (case hg => rfl); (case hr => (go_simp; done)); intro gb524 hg w10 hbox hb; replace HO520 := Aside0.mk (Kd.R_below zb4_15 hb); have BK524 := Aside0.mk (hbox); have GW524 := Aside0.mk ((by rw [hg]; exact (below_size zb3_15) : w.heap.size ≤ gb524)); have GE524 := Aside0.mk ((by rw [hg]; exact (below_size zb3_15) : w.heap.size ≤ gb524)); replace HB := Aside0.mk (below_step zb3_15 hb); have NB510_524 := Aside0.mk ((zb5_15 : gb510 ≠ gb524)); have NB524_510 := Aside0.mk ((zb6_15 : gb524 ≠ gb510)); replace BK510 := bkb BK510 hb; have NB515_524 := Aside0.mk ((by rw [hg]; exact Nat.ne_of_lt (IsS60.lt (show IsS60 w _ g515 t511 t521 t522 t523 from by repeat ((with_reducible (exact HI515.out))))) : g515 ≠ gb524)); have NB524_515 := Aside0.mk ((by rw [hg]; exact Nat.ne_of_gt (IsS60.lt (show IsS60 w _ g515 t511 t521 t522 t523 from by repeat ((with_reducible (exact HI515.out))))) : gb524 ≠ g515)); replace HI515 := Aside0.mk (IsS60.below (by repeat ((with_reducible (exact HI515.out)))) hb); clear hb hbox hg; have hnb11 := NB524_510.out; have hnc11 := NB510_524.out; have hnb12 := NB524_515.out; have hnc12 := NB515_524.out; obtain ⟨z0, z1, z2, z3, z4, z5⟩ := bz3 BK524.out; obtain ⟨Ao14, co14, eo14⟩ := Kd.R_slice HO520.out; subst eo14) | ((with_reducible refine gate_dst (N := 16) rfl ?_); refine Kd.R_lit Kd.string _ 9 ?hg (N := 16) ?hd (xs := ([(⟨#[98]⟩ : ByteArray), (⟨#[99, 46, 100]⟩ : ByteArray)] : List ByteArray)) (inner := [.string (⟨#[98]⟩ : ByteArray), .string (⟨#[99, 46, 100]⟩ : ByteArray)]) (ok := fun _ => True) (okp := fun _ => True) ?hr ?hp (fun _ hk => hk) trivial (Below.refl _ _) (Nat.le_refl _) (by simp) ?_; (case hd => rfl); (case hg => rfl); (case hr => (go_simp; done)); (case hp => exact (Reps.one (show Kd.M Kd.string _ _ _ (⟨#[98]⟩ : ByteArray) [.string (⟨#[98]⟩ : ByteArray)] from rfl) (Reps.one (show Kd.M Kd.string _ _ _ (⟨#[99, 46, 100]⟩ : ByteArray) [.string (⟨#[99, 46, 100]⟩ : ByteArray)] from rfl) (Reps.none _ _)))); intro v526 w15 ho16 hb hg_ hnew_; clear hg_ hnew_; ((rw [← Ny525.out] at ho16)); replace HO520 := Aside0.mk (Kd.R_below (by exact (Kd.R_mono (rfa (rfa (rfa (Kd.R_types HO520.out BK524.out (by decide)) (fun _ h => h.2)) (fun _ h => h.2)) (fun _ h => h.2)) (fun _ h_ => h_.1))) hb); have HO527 := Aside0.mk (Kd.R_lower ho16 (below_size zb7_15)); replace BK510 := Aside0.mk (blk_below (g := gb510) (o := .cells #[.string (⟨#[]⟩ : ByteArray), .int .i64 0, .slice none 0 0] 25 (0, 0)) (by refine blk_far ?_ NB510_524.out _; refine blk_far ?_ NB510_524.out _; refine blk_far ?_ NB510_524.out _; exact BK510.out) hb); replace HI515 := Aside0.mk (IsS60.below (show IsS60 w (((w10.setCell ⟨gb524, 0, none⟩ (.string t516)).setCell ⟨gb524, 1, none⟩ (.int .i64 t517)).setCell ⟨gb524, 2, none⟩ (.slice Ao14 t518.length co14)) g515 t511 t521 t522 t523 from by repeat ((with_reducible first | exact HI515.out | refine IsS60.far ?_ NB515_524.out _))) hb); replace BK524 := Aside0.mk (blk_below (g := gb524) (o := .cells #[.string t516, .int .i64 t517, .slice Ao14 t518.length co14] 25 (0, 0)) (by apply bp3; exact BK524.out) hb); replace HB := Aside0.mk (below_step zb7_15 hb); clear hb ho16; obtain ⟨Ao17, co17, eo17⟩ := Kd.R_slice HO527.out; subst eo17) | ((with_reducible refine gate_callee (f := 21) rfl ?_); refine goesL_ (some 17) rfl rfl Tryd.func21 (by kernel_rfl) rfl #[.pointer (some ⟨g515, 0, none⟩), .slice Ao17 y525.length co17] rfl zb1_15 ?_; (with_reducible refine (spec_l01Src_pick.calls g515 t511 t521 t522 t523 _ _ y525 t528 t529 t530 t531 w _ ?side1 ?side2 ?side3 ?side4 ?side5 A4.out).mono ?_); (case side1 => repeat ((with_reducible (exact HI515.out)))); (case side2 => repeat ((with_reducible (exact HB.out)))); (case side3 => repeat ((exact (Kd.R_reads' HO527.out).2.2))); (case side4 => exact (Kd.R_reads' HO527.out).2.1); (case side5 => exact far_slice (IsS60.own_ne HI515.out HO527.out (by decide))); rintro e w18 ⟨rfl, hi, hb, hk⟩; refine ⟨_, rfl, ?_⟩; replace BK510 := Aside0.mk (KeepBut.blk hk (g' := gb510) (o := .cells #[.string (⟨#[]⟩ : ByteArray), .int .i64 0, .slice none 0 0] 25 (0, 0)) zb2_15 NB510_515.out (by simp)); replace HO520 := Aside0.mk (Kd.R_mono (Kd.R_keep (IsS60.apart (show IsS60 w _ g515 t511 t521 t522 t523 from by repeat ((with_reducible (exact HI515.out)))) zb4_15 (by decide)) hk (fun _ h => h.2)) (fun _ h => h.1)); replace BK524 := Aside0.mk (KeepBut.blk hk (g' := gb524) (o := .cells #[.string t516, .int .i64 t517, .slice Ao14 t518.length co14] 25 (0, 0)) zb8_15 NB524_515.out (by simp)); replace HO527 := Aside0.mk (Kd.R_mono (Kd.R_keep (IsS60.apart (show IsS60 w _ g515 t511 t521 t522 t523 from by repeat ((with_reducible (exact HI515.out)))) zb9_15 (by decide)) hk (fun _ h => h.2)) (fun _ h => h.1)); replace HB := Aside0.mk (hb); replace HI515 := Aside0.mk (hi); (try clear hb); (try clear hk); (try clear hi)) | ((with_reducible refine gate_callee (f := 25) rfl ?_); refine goesL_ (some 19) rfl rfl Tryd.func25 (by kernel_rfl) rfl #[.pointer (some ⟨g515, 0, none⟩), .int .i64 6] rfl zb1_15 ?_; (with_reducible refine (spec_l01Src_n.calls g515 t511 t529 t530 t531 6 t532 t533 t534 t535 w _ ?side1 ?side2 A5.out).mono ?_); (case side1 => repeat ((with_reducible (exact HI515.out)))); (case side2 => repeat ((with_reducible (exact HB.out)))); rintro e w19 ⟨rfl, hi, hb, hk⟩; refine ⟨_, rfl, ?_⟩; replace BK510 := Aside0.mk (KeepBut.blk hk (g' := gb510) (o := .cells #[.string (⟨#[]⟩ : ByteArray), .int .i64 0, .slice none 0 0] 25 (0, 0)) zb2_15 NB510_515.out (by simp)); replace HO520 := Aside0.mk (Kd.R_mono (Kd.R_keep (IsS60.apart (show IsS60 w _ g515 t511 t529 t530 t531 from by repeat ((with_reducible (exact HI515.out)))) zb4_15 (by decide)) hk (fun _ h => h.2)) (fun _ h => h.1)); replace BK524 := Aside0.mk (KeepBut.blk hk (g' := gb524) (o := .cells #[.string t516, .int .i64 t517, .slice Ao14 t518.length co14] 25 (0, 0)) zb8_15 NB524_515.out (by simp)); replace HO527 := Aside0.mk (Kd.R_mono (Kd.R_keep (IsS60.apart (show IsS60 w _ g515 t511 t529 t530 t531 from by repeat ((with_reducible (exact HI515.out)))) zb9_15 (by decide)) hk (fun _ h => h.2)) (fun _ h => h.1)); replace HB := Aside0.mk (hb); replace HI515 := Aside0.mk (hi); (try clear hb); (try clear hk); (try clear hi)))
 go_cut [29] (fun v29 wc => ∃ (kq : Nat) (x29_5 : Bool) (x516001_5 : Int) (x516002_5 : Int) (x516003_5 : Int), v29 = .bool x29_5 ∧ Aside0 (spec_DrawDbTrusts.j0 kq t528 (wrap64 (1 + t532)) x29_5 t511 x516001_5 x516002_5 x516003_5 t516 t517 t518 = some (r1, r2, r3, r4, r5)) ∧ Aside0 (kq ≤ k) ∧ Aside0 (Kd.R k43 43 wc w.heap.size (fun _ => True) (.slice Ao14 t518.length co14) t518) ∧ Aside0 (wc.heap[gb510]? = some (.cells #[.string (⟨#[]⟩ : ByteArray), .int .i64 0, (.slice none 0 0)] 25 (0, 0))) ∧ Aside0 (wc.heap[gb524]? = some (.cells #[.string t516, .int .i64 t517, (.slice Ao14 t518.length co14)] 25 (0, 0))) ∧ Aside0 (IsS60 w wc g515 t511 x516001_5 x516002_5 x516003_5) ∧ Aside0 (Below w.heap.size w wc))
 case first =>
  have H := HC6.out
  clear HC6
  have hnb22 := NB524_510.out
  have hnc22 := NB510_524.out
  have hnb23 := NB524_515.out
  have hnc23 := NB515_524.out
  obtain ⟨z0, z1, z2, z3, z4, z5⟩ := bz3 BK524.out
  by_cases c20 : (t518.length : Int) > 0
  rotate_left
  ·
   rw [if_neg c20] at H
   have c20b0 : decide (0 < (t518.length : Int)) = false := decide_eq_false c20
   have c20b1 : decide (0 < t518.length) = false := decide_eq_false (by omega)
   clear c20
   have H' := Aside0.mk H
   clear H
   (try rw [c20b0])
   (try rw [c20b1])
   go_wp2
   go_meet
   case rel => exact ⟨_, (false), (t533), (t534), (t535), (by rfl), H', ⟨by omega⟩, ⟨by exact HO520.out⟩, ⟨by exact BK510.out⟩, ⟨by exact BK524.out⟩, ⟨by repeat ((with_reducible (exact HI515.out)))⟩, ⟨by repeat ((with_reducible (exact HB.out)))⟩⟩
  rw [if_pos c20] at H
  have c20b0 : decide (0 < (t518.length : Int)) = true := decide_eq_true c20
  have c20b1 : decide (0 < t518.length) = true := decide_eq_true (by omega)
  clear c20
  replace H := Option.bind_eq_some_iff.mp H
  obtain ⟨⟨t536, t537, t538, t539⟩, A210, H⟩ := H
  (try dsimp -simprocs only at H)
  have A21 := Aside0.mk A210
  clear A210
  have H' := Aside0.mk H
  clear H
  (try rw [c20b0])
  (try rw [c20b1])
  go_wp2_with ((go_at_call 28; (with_reducible refine (spec_l01Src_one.calls g515 t511 t533 t534 t535 3 t536 t537 t538 t539 w _ ?side1 ?side2 A21.out).mono ?_); (case side1 => repeat ((with_reducible (exact HI515.out)))); (case side2 => repeat ((with_reducible (exact HB.out)))); rintro e w25 ⟨rfl, hi, hb, hk⟩; replace BK510 := Aside0.mk (KeepBut.blk hk (g' := gb510) (o := .cells #[.string (⟨#[]⟩ : ByteArray), .int .i64 0, .slice none 0 0] 25 (0, 0)) zb2_15 NB510_515.out (by simp)); replace HO520 := Aside0.mk (Kd.R_mono (Kd.R_keep (IsS60.apart (show IsS60 w _ g515 t511 t533 t534 t535 from by repeat ((with_reducible (exact HI515.out)))) zb4_15 (by decide)) hk (fun _ h => h.2)) (fun _ h => h.1)); replace BK524 := Aside0.mk (KeepBut.blk hk (g' := gb524) (o := .cells #[.string t516, .int .i64 t517, .slice Ao14 t518.length co14] 25 (0, 0)) zb8_15 NB524_515.out (by simp)); replace HB := Aside0.mk (hb); replace HI515 := Aside0.mk (hi); (try clear hb); (try clear hk); (try clear hi)))
  go_meet
  case rel => exact ⟨_, (!t536), (t537), (t538), (t539), (by rfl), H', ⟨by omega⟩, ⟨by exact HO520.out⟩, ⟨by exact BK510.out⟩, ⟨by exact BK524.out⟩, ⟨by repeat ((with_reducible (exact HI515.out)))⟩, ⟨by repeat ((with_reducible (exact HB.out)))⟩⟩
 case rest =>
  clear HC6
  obtain ⟨kq, x29_5, x516001_5, x516002_5, x516003_5, rfl, HA, HJ5, HO_525002, BK510, BK524, HI515, HB⟩ := hcut
  cases kq with
  | zero => exact absurd HA.out (by simp [spec_DrawDbTrusts.j0])
  | succ kj5 =>
   have H := HA.out
   clear HA
   simp only [spec_DrawDbTrusts.j0] at H
   by_cases c29 : x29_5 = true
   rotate_left
   ·
    replace c29 := Bool.eq_false_iff.mpr c29
    subst c29
    rw [if_neg (show ¬ (false = true) by decide)] at H
    simp only [Option.some.injEq, Prod.mk.injEq] at H
    obtain ⟨rfl, rfl, rfl, rfl, rfl⟩ := H
    have hnb173 := NB524_510.out
    have hnc173 := NB510_524.out
    have hnb174 := NB524_515.out
    have hnc174 := NB515_524.out
    obtain ⟨z0, z1, z2, z3, z4, z5⟩ := bz3 BK524.out
    have hnb176 := NB510_515.out
    have hnc176 := NB515_510.out
    obtain ⟨z0, z1, z2, z3, z4, z5⟩ := bz3 BK510.out
    go_wp2
    refine bodyPost_ret (results_ctt rfl _ _ gb510 25 #[.string t516, .int .i64 t517, .slice Ao14 t518.length co14] (0, 0) _ rfl (by apply bp3; exact BK510.out) Tryd.underlying25 rfl (by kernel_rfl)) rfl ?_
    exact ⟨_, by rfl, by exact Kd.R_mono (rfa (rfa (rfa (Kd.R_types HO_525002.out BK510.out (by decide)) (fun _ h => h.2)) (fun _ h => h.2)) (fun _ h => h.2)) (fun _ hk => trivial), by repeat ((with_reducible first | exact HB.out | refine below_set ?_ GE510.out))⟩
   subst c29
   rw [if_pos rfl] at H
   replace H := Option.bind_eq_some_iff.mp H
   obtain ⟨⟨t540, t541, t542, t543⟩, A300, H⟩ := H
   (try dsimp -simprocs only at H)
   have A30 := Aside0.mk A300
   clear A300
   by_cases c31 : 0 ≤ t540
   rotate_left
   · rw [if_neg c31] at H; exact absurd H (by simp)
   rw [if_pos c31] at H
   have c31b0 := decide_eq_true c31
   clear c31
   by_cases c32 : t540 < (t518.length : Int)
   rotate_left
   · rw [if_neg c32] at H; exact absurd H (by simp)
   rw [if_pos c32] at H
   have c32b0 := decide_eq_true c32
   clear c32
   replace H := Option.bind_eq_some_iff.mp H
   obtain ⟨⟨t546, t547, t548, t551, t552⟩, A330, H⟩ := H
   (try dsimp -simprocs only at H)
   have A33 := Aside0.mk A330
   clear A330
   have HC34 := Aside0.mk H
   clear H
   try go_wp2
   replace HO_525002 := Aside0.mk (Kd.R_drew HO_525002.out)
   replace BK510 := Aside0.mk (blk_drew BK510.out)
   replace BK524 := Aside0.mk (blk_drew BK524.out)
   replace HI515 := Aside0.mk (IsS60.drew HI515.out)
   replace HB := Aside0.mk (below_drew1 HB.out)
   have p544 : 0 ≤ (t540 : Int) := of_decide_eq_true (by (with_reducible assumption))
   have q544 : t540 < (t518.length : Int) := of_decide_eq_true (by (with_reducible assumption))
   obtain ⟨ad544, e544, hx544_0, hx544_1, hx544_2, hx544_3⟩ := at_T43 (Kd.R_reads' HO_525002.out).2.2 t540 p544 q544
   cases e544
   replace p544 := eq_true p544
   replace q544 := eq_true q544
   refine start_ (n := 11) (S := fun w' => w'.cell? ⟨gb524, 0, none⟩ = some (.string t516) ∧ w'.cell? ⟨gb524, 1, none⟩ = some (.int .i64 t517) ∧ w'.cell? ⟨gb524, 2, none⟩ = some (.slice (some ad544) t518.length co14) ∧ w'.cell? (ad544.add ((t540).toNat * 4)) = some (.string ((rd_T43 t518 t540).f0)) ∧ w'.cell? ⟨(ad544.add ((t540).toNat * 4)).block, (ad544.add ((t540).toNat * 4)).off + 1, none⟩ = some (.int .i64 ((rd_T43 t518 t540).f1)) ∧ w'.cell? ⟨(ad544.add ((t540).toNat * 4)).block, (ad544.add ((t540).toNat * 4)).off + 2, none⟩ = some (.int .i64 ((rd_T43 t518 t540).f2)) ∧ w'.cell? ⟨(ad544.add ((t540).toNat * 4)).block, (ad544.add ((t540).toNat * 4)).off + 3, none⟩ = some (.string ((rd_T43 t518 t540).f3))) (ds := []) zm0_15 (by kernel_rfl) rfl rfl ⟨(blk_cell BK524.out 0).trans rfl, (blk_cell BK524.out 1).trans rfl, (blk_cell BK524.out 2).trans rfl, hx544_0, hx544_1, hx544_2, hx544_3⟩ (fun hHeld => ?_); refine with_tabW spec_DrawDbTrusts.tab6 spec_DrawDbTrusts.bits6 (fun HT_ HW_ => ?_)
   generalize wc.drew = w35 at HO_525002 BK510 BK524 HI515 HB hx544_0 hx544_1 hx544_2 hx544_3 hHeld ⊢
   refine zp 0 (some 30) zm1_15 HT_ ?_
   refine zp 2 (some 32) zm2_15 HT_ ?_
   refine zp 3 (some 33) zm3_15 HT_ ?_
   refine zt 1 (some 31) zm4_15 HT_ HW_ hHeld ?_
   refine zt 4 (some 34) zm5_15 HT_ HW_ hHeld ?_
   refine zp 5 (some 35) zm6_15 HT_ ?_
   refine join_ (σ := Nat) 1 zm7_15 (fun s_ => [(36, .int .i64 t540), (9, .pointer (some ⟨s_, 0, none⟩)), (37, .pointer (some (ad544.add ((t540).toNat * 4)))), (38, .agg #[.string ((rd_T43 t518 t540).f0), .int .i64 ((rd_T43 t518 t540).f1), .int .i64 ((rd_T43 t518 t540).f2), .string ((rd_T43 t518 t540).f3)])]) (fun s_ w' => (w'.cell? ⟨gb524, 0, none⟩ = some (.string t516) ∧ w'.cell? ⟨gb524, 1, none⟩ = some (.int .i64 t517) ∧ w'.cell? ⟨gb524, 2, none⟩ = some (.slice (some ad544) t518.length co14) ∧ w'.cell? (ad544.add ((t540).toNat * 4)) = some (.string ((rd_T43 t518 t540).f0)) ∧ w'.cell? ⟨(ad544.add ((t540).toNat * 4)).block, (ad544.add ((t540).toNat * 4)).off + 1, none⟩ = some (.int .i64 ((rd_T43 t518 t540).f1)) ∧ w'.cell? ⟨(ad544.add ((t540).toNat * 4)).block, (ad544.add ((t540).toNat * 4)).off + 2, none⟩ = some (.int .i64 ((rd_T43 t518 t540).f2)) ∧ w'.cell? ⟨(ad544.add ((t540).toNat * 4)).block, (ad544.add ((t540).toNat * 4)).off + 3, none⟩ = some (.string ((rd_T43 t518 t540).f3))) ∧ (Kd.R k43 43 w' w.heap.size (fun k_ => k_ ≠ s_) (.slice (some ad544) t518.length co14) t518) ∧ (w'.heap[gb510]? = some (.cells #[.string (⟨#[]⟩ : ByteArray), .int .i64 0, .slice none 0 0] 25 (0, 0))) ∧ (w'.heap[gb524]? = some (.cells #[.string t516, .int .i64 t517, .slice (some ad544) t518.length co14] 25 (0, 0))) ∧ (w'.heap[s_]? = some (.cells #[.string (⟨#[]⟩ : ByteArray), .int .i64 0, .int .i64 0, .string (⟨#[]⟩ : ByteArray)] 43 (0, 0))) ∧ (w.heap.size ≤ s_) ∧ (w.heap.size ≤ s_) ∧ (g515 ≠ s_) ∧ (s_ ≠ g515) ∧ (gb510 ≠ s_) ∧ (s_ ≠ gb510) ∧ (gb524 ≠ s_) ∧ (s_ ≠ gb524) ∧ (IsS60 w w' g515 t511 t541 t542 t543) ∧ (Below w.heap.size w w')) ?_ ?_
   rotate_left
   ·
    intro hCont
    refine two_ (i := 6) (j := 9) (Ni := some 36) (Nj := some 9) zm8_15 zm9_15 rfl rfl rfl rfl (two_of HT_.out (by kernel_rfl)) (by decide) (by decide) (fun K hK => ?_) (fun K hK => ?_)
    ·
     refine goes_ Tryd.func25 (by kernel_rfl) rfl #[.pointer (some ⟨g515, 0, none⟩), .int .i64 (t518.length : Int)] (by rfl) rfl rfl zb1_15 ?_
     with_reducible refine (spec_l01Src_n.calls g515 t511 x516001_5 x516002_5 x516003_5 (t518.length : Int) t540 t541 t542 t543 w _ ?side1 ?side2 A30.out).mono ?_
     (case side1 => repeat ((with_reducible (exact HI515.out))))
     (case side2 => repeat ((with_reducible (exact HB.out))))
     rintro e w36 ⟨rfl, hi, hb, hk⟩
     have HS3_ := keep_cell hk (hHeld.2.2.2.1) zb10_15
     have HS4_ := keep_cell hk (hHeld.2.2.2.2.1) zb10_15
     have HS5_ := keep_cell hk (hHeld.2.2.2.2.2.1) zb10_15
     have HS6_ := keep_cell hk (hHeld.2.2.2.2.2.2) zb10_15
     refine ⟨_, rfl, ?_⟩
     replace HO_525002 := Aside0.mk (Kd.R_mono (Kd.R_keep (IsS60.apart (show IsS60 w _ g515 t511 x516001_5 x516002_5 x516003_5 from by repeat ((with_reducible (exact HI515.out)))) zb11_15 (by decide)) hk (fun _ h => h.2)) (fun _ h => h.1))
     replace BK510 := Aside0.mk (KeepBut.blk hk (g' := gb510) (o := .cells #[.string (⟨#[]⟩ : ByteArray), .int .i64 0, .slice none 0 0] 25 (0, 0)) zb2_15 NB510_515.out (by simp))
     replace BK524 := Aside0.mk (KeepBut.blk hk (g' := gb524) (o := .cells #[.string t516, .int .i64 t517, .slice (some ad544) t518.length co14] 25 (0, 0)) zb8_15 NB524_515.out (by simp))
     replace HB := Aside0.mk (hb)
     replace HI515 := Aside0.mk (hi)
     (try clear hb)
     (try clear hk)
     (try clear hi)
     refine hK.out _ _ zk0_15 (fun hHeld => ?_)
     clear hK K
     refine zn (some 36) ?_
     refine zp 7 (some 37) zm10_15 HT_ ?_
     refine zt 8 (some 38) zm11_15 HT_ HW_ hHeld ?_
     refine one_ (i := 9) (N := some 9) zm7_15 rfl rfl (one_of HT_.out (by kernel_rfl)) (by decide) (fun K hK => ?_)
     refine box_step ?hg (N := 9) ?hd (cs := #[.string (⟨#[]⟩ : ByteArray), .int .i64 0, .int .i64 0, .string (⟨#[]⟩ : ByteArray)]) (t := 43) ?hr ?_; (case hd => rfl); (case hg => rfl); (case hr => (go_simp; done))
     intro gb545 hg w37 hbox hb
     have HS3_ := (hb.cell (World.block_lt_of_cell? _ _ (hHeld.2.2.2.1))).trans (hHeld.2.2.2.1)
     have HS4_ := (hb.cell (World.block_lt_of_cell? _ _ (hHeld.2.2.2.2.1))).trans (hHeld.2.2.2.2.1)
     have HS5_ := (hb.cell (World.block_lt_of_cell? _ _ (hHeld.2.2.2.2.2.1))).trans (hHeld.2.2.2.2.2.1)
     have HS6_ := (hb.cell (World.block_lt_of_cell? _ _ (hHeld.2.2.2.2.2.2))).trans (hHeld.2.2.2.2.2.2)
     replace HO_525002 := Aside0.mk (Kd.R_below (Kd.R_elderB zb11_15 gb545 (Nat.le_of_eq hg.symm)) hb)
     have BK545 := Aside0.mk (hbox)
     have GW545 := Aside0.mk ((zb12_15 : w.heap.size ≤ gb545))
     have GE545 := Aside0.mk ((zb12_15 : w.heap.size ≤ gb545))
     replace HB := Aside0.mk (below_step zb7_15 hb)
     have NB510_545 := Aside0.mk ((zb5_15 : gb510 ≠ gb545))
     have NB545_510 := Aside0.mk ((zb6_15 : gb545 ≠ gb510))
     replace BK510 := bkb BK510 hb
     have NB524_545 := Aside0.mk ((zb13_15 : gb524 ≠ gb545))
     have NB545_524 := Aside0.mk ((zb14_15 : gb545 ≠ gb524))
     replace BK524 := bkb BK524 hb
     have NB515_545 := Aside0.mk ((by rw [hg]; exact Nat.ne_of_lt (IsS60.lt (show IsS60 w _ g515 t511 t541 t542 t543 from by repeat ((with_reducible (exact HI515.out))))) : g515 ≠ gb545))
     have NB545_515 := Aside0.mk ((by rw [hg]; exact Nat.ne_of_gt (IsS60.lt (show IsS60 w _ g515 t511 t541 t542 t543 from by repeat ((with_reducible (exact HI515.out))))) : gb545 ≠ g515))
     replace HI515 := Aside0.mk (IsS60.below (by repeat ((with_reducible (exact HI515.out)))) hb)
     clear hb hbox hg
     refine hK.out _ _ zk0_15 (fun hHeld => ?_)
     clear hK K
     refine zn (some 9) ?_
     exact norm_ (by simp only [putAll, Act.put, List.setIfInBounds_toArray, List.set_cons_zero, List.set_cons_succ]) (hCont (gb545) _ ⟨hHeld, (by exact Kd.R_mono HO_525002.out (fun _ hk => hk.2)), zb2_15, zb8_15, zb15_15, GW545.out, GE545.out, NB515_545.out, NB545_515.out, NB510_545.out, NB545_510.out, NB524_545.out, NB545_524.out, zb16_15, zb17_15⟩)
    ·
     refine box_step ?hg (N := 9) ?hd (cs := #[.string (⟨#[]⟩ : ByteArray), .int .i64 0, .int .i64 0, .string (⟨#[]⟩ : ByteArray)]) (t := 43) ?hr ?_; (case hd => rfl); (case hg => rfl); (case hr => (go_simp; done))
     intro gb545 hg w36 hbox hb
     have HS3_ := (hb.cell (World.block_lt_of_cell? _ _ (hHeld.2.2.2.1))).trans (hHeld.2.2.2.1)
     have HS4_ := (hb.cell (World.block_lt_of_cell? _ _ (hHeld.2.2.2.2.1))).trans (hHeld.2.2.2.2.1)
     have HS5_ := (hb.cell (World.block_lt_of_cell? _ _ (hHeld.2.2.2.2.2.1))).trans (hHeld.2.2.2.2.2.1)
     have HS6_ := (hb.cell (World.block_lt_of_cell? _ _ (hHeld.2.2.2.2.2.2))).trans (hHeld.2.2.2.2.2.2)
     replace HO_525002 := Aside0.mk (Kd.R_below (Kd.R_elderB zb11_15 gb545 (Nat.le_of_eq hg.symm)) hb)
     have BK545 := Aside0.mk (hbox)
     have GW545 := Aside0.mk ((zb12_15 : w.heap.size ≤ gb545))
     have GE545 := Aside0.mk ((zb12_15 : w.heap.size ≤ gb545))
     replace HB := Aside0.mk (below_step zb7_15 hb)
     have NB510_545 := Aside0.mk ((zb5_15 : gb510 ≠ gb545))
     have NB545_510 := Aside0.mk ((zb6_15 : gb545 ≠ gb510))
     replace BK510 := bkb BK510 hb
     have NB524_545 := Aside0.mk ((zb13_15 : gb524 ≠ gb545))
     have NB545_524 := Aside0.mk ((zb14_15 : gb545 ≠ gb524))
     replace BK524 := bkb BK524 hb
     have NB515_545 := Aside0.mk ((by rw [hg]; exact Nat.ne_of_lt (IsS60.lt (show IsS60 w _ g515 t511 x516001_5 x516002_5 x516003_5 from by repeat ((with_reducible (exact HI515.out))))) : g515 ≠ gb545))
     have NB545_515 := Aside0.mk ((by rw [hg]; exact Nat.ne_of_gt (IsS60.lt (show IsS60 w _ g515 t511 x516001_5 x516002_5 x516003_5 from by repeat ((with_reducible (exact HI515.out))))) : gb545 ≠ g515))
     replace HI515 := Aside0.mk (IsS60.below (by repeat ((with_reducible (exact HI515.out)))) hb)
     clear hb hbox hg
     refine hK.out _ _ zk0_15 (fun hHeld => ?_)
     clear hK K
     refine zn (some 9) ?_
     refine one_ (i := 6) (N := some 36) zm12_15 rfl rfl (one_of HT_.out (by kernel_rfl)) (by decide) (fun K hK => ?_)
     refine goes_ Tryd.func25 (by kernel_rfl) rfl #[.pointer (some ⟨g515, 0, none⟩), .int .i64 (t518.length : Int)] (by rfl) rfl rfl zb1_15 ?_
     with_reducible refine (spec_l01Src_n.calls g515 t511 x516001_5 x516002_5 x516003_5 (t518.length : Int) t540 t541 t542 t543 w _ ?side1 ?side2 A30.out).mono ?_
     (case side1 => repeat ((with_reducible (exact HI515.out))))
     (case side2 => repeat ((with_reducible (exact HB.out))))
     rintro e w37 ⟨rfl, hi, hb, hk⟩
     have HS3_ := keep_cell hk (hHeld.2.2.2.1) zb10_15
     have HS4_ := keep_cell hk (hHeld.2.2.2.2.1) zb10_15
     have HS5_ := keep_cell hk (hHeld.2.2.2.2.2.1) zb10_15
     have HS6_ := keep_cell hk (hHeld.2.2.2.2.2.2) zb10_15
     refine ⟨_, rfl, ?_⟩
     replace HO_525002 := Aside0.mk (Kd.R_mono (Kd.R_keep (IsS60.apart (show IsS60 w _ g515 t511 x516001_5 x516002_5 x516003_5 from by repeat ((with_reducible (exact HI515.out)))) zb11_15 (by decide)) hk (fun _ h => h.2)) (fun _ h => h.1))
     replace BK510 := Aside0.mk (KeepBut.blk hk (g' := gb510) (o := .cells #[.string (⟨#[]⟩ : ByteArray), .int .i64 0, .slice none 0 0] 25 (0, 0)) zb2_15 NB510_515.out (by simp))
     replace BK524 := Aside0.mk (KeepBut.blk hk (g' := gb524) (o := .cells #[.string t516, .int .i64 t517, .slice (some ad544) t518.length co14] 25 (0, 0)) zb8_15 NB524_515.out (by simp))
     replace BK545 := Aside0.mk (KeepBut.blk hk (g' := gb545) (o := .cells #[.string (⟨#[]⟩ : ByteArray), .int .i64 0, .int .i64 0, .string (⟨#[]⟩ : ByteArray)] 43 (0, 0)) zb15_15 NB545_515.out (by simp))
     replace HB := Aside0.mk (hb)
     replace HI515 := Aside0.mk (hi)
     (try clear hb)
     (try clear hk)
     (try clear hi)
     refine hK.out _ _ zk0_15 (fun hHeld => ?_)
     clear hK K
     refine zn (some 36) ?_
     refine zp 7 (some 37) zm13_15 HT_ ?_
     refine zt 8 (some 38) zm7_15 HT_ HW_ hHeld ?_
     exact norm_ (by simp only [putAll, Act.put, List.setIfInBounds_toArray, List.set_cons_zero, List.set_cons_succ]) (hCont (gb545) _ ⟨hHeld, (by exact Kd.R_mono HO_525002.out (fun _ hk => hk.2)), zb2_15, zb8_15, zb15_15, GW545.out, GE545.out, NB515_545.out, NB545_515.out, NB510_545.out, NB545_510.out, NB524_545.out, NB545_524.out, zb16_15, zb17_15⟩)
   rintro gb545 w38 ⟨hS_, h0_, h1_, h2_, h3_, h4_, h5_, h6_, h7_, h8_, h9_, h10_, h11_, h12_, h13_⟩
   have n0_ : Aside0 (Kd.R k43 43 w38 w.heap.size (fun k_ => k_ ≠ gb545) (.slice (some ad544) t518.length co14) t518) := ⟨h0_⟩
   have n1_ : Aside0 (w38.heap[gb510]? = some (.cells #[.string (⟨#[]⟩ : ByteArray), .int .i64 0, .slice none 0 0] 25 (0, 0))) := ⟨h1_⟩
   have n2_ : Aside0 (w38.heap[gb524]? = some (.cells #[.string t516, .int .i64 t517, .slice (some ad544) t518.length co14] 25 (0, 0))) := ⟨h2_⟩
   have n3_ : Aside0 (w38.heap[gb545]? = some (.cells #[.string (⟨#[]⟩ : ByteArray), .int .i64 0, .int .i64 0, .string (⟨#[]⟩ : ByteArray)] 43 (0, 0))) := ⟨h3_⟩
   have n4_ : Aside0 (w.heap.size ≤ gb545) := ⟨h4_⟩
   have n5_ : Aside0 (w.heap.size ≤ gb545) := ⟨h5_⟩
   have n6_ : Aside0 (g515 ≠ gb545) := ⟨h6_⟩
   have n7_ : Aside0 (gb545 ≠ g515) := ⟨h7_⟩
   have n8_ : Aside0 (gb510 ≠ gb545) := ⟨h8_⟩
   have n9_ : Aside0 (gb545 ≠ gb510) := ⟨h9_⟩
   have n10_ : Aside0 (gb524 ≠ gb545) := ⟨h10_⟩
   have n11_ : Aside0 (gb545 ≠ gb524) := ⟨h11_⟩
   have n12_ : Aside0 (IsS60 w w38 g515 t511 t541 t542 t543) := ⟨h12_⟩
   have n13_ : Aside0 (Below w.heap.size w w38) := ⟨h13_⟩
   clear HO_525002
   clear BK510
   clear BK524
   clear HI515
   clear HB
   clear h0_ h1_ h2_ h3_ h4_ h5_ h6_ h7_ h8_ h9_ h10_ h11_ h12_ h13_
   have HO_525002 := n0_
   have BK510 := n1_
   have BK524 := n2_
   have BK545 := n3_
   have GW545 := n4_
   have GE545 := n5_
   have NB515_545 := n6_
   have NB545_515 := n7_
   have NB510_545 := n8_
   have NB545_510 := n9_
   have NB524_545 := n10_
   have NB545_524 := n11_
   have HI515 := n12_
   have HB := n13_
   clear n0_ n1_ n2_ n3_ n4_ n5_ n6_ n7_ n8_ n9_ n10_ n11_ n12_ n13_
   have hHeld : w38.cell? ⟨gb524, 0, none⟩ = some (.string t516) ∧ w38.cell? ⟨gb524, 1, none⟩ = some (.int .i64 t517) ∧ w38.cell? ⟨gb524, 2, none⟩ = some (.slice (some ad544) t518.length co14) ∧ w38.cell? (ad544.add ((t540).toNat * 4)) = some (.string ((rd_T43 t518 t540).f0)) ∧ w38.cell? ⟨(ad544.add ((t540).toNat * 4)).block, (ad544.add ((t540).toNat * 4)).off + 1, none⟩ = some (.int .i64 ((rd_T43 t518 t540).f1)) ∧ w38.cell? ⟨(ad544.add ((t540).toNat * 4)).block, (ad544.add ((t540).toNat * 4)).off + 2, none⟩ = some (.int .i64 ((rd_T43 t518 t540).f2)) ∧ w38.cell? ⟨(ad544.add ((t540).toNat * 4)).block, (ad544.add ((t540).toNat * 4)).off + 3, none⟩ = some (.string ((rd_T43 t518 t540).f3)) := hS_
   refine norm_ (a' := ?_) ?_ ?_
   rotate_left
   · simp only [putAll, Act.put, List.setIfInBounds_toArray, List.set_cons_zero, List.set_cons_succ]; rfl
   refine one_ (i := 10) (N := none) zm14_15 rfl rfl (one_of HT_.out (by kernel_rfl)) (by decide) (fun K hK => ?_)
   have hs39 : w38.cell? ⟨gb545, 0, none⟩ = some (.string (⟨#[]⟩ : ByteArray)) := (blk_cell BK545.out 0).trans rfl
   have hfs39 := blk_frozen BK545.out 0
   have hns39_0 := NB510_545.out
   have hns39_1 := NB524_545.out
   have hms39_0 := NB545_510.out
   have hms39_1 := NB545_524.out
   have hs40 : w38.cell? ⟨gb545, 1, none⟩ = some (.int .i64 0) := (blk_cell BK545.out 1).trans rfl
   have hfs40 := blk_frozen BK545.out 1
   have hns40_0 := NB510_545.out
   have hns40_1 := NB524_545.out
   have hms40_0 := NB545_510.out
   have hms40_1 := NB545_524.out
   have hs41 : w38.cell? ⟨gb545, 2, none⟩ = some (.int .i64 0) := (blk_cell BK545.out 2).trans rfl
   have hfs41 := blk_frozen BK545.out 2
   have hns41_0 := NB510_545.out
   have hns41_1 := NB524_545.out
   have hms41_0 := NB545_510.out
   have hms41_1 := NB545_524.out
   have hs42 : w38.cell? ⟨gb545, 3, none⟩ = some (.string (⟨#[]⟩ : ByteArray)) := (blk_cell BK545.out 3).trans rfl
   have hfs42 := blk_frozen BK545.out 3
   have hns42_0 := NB510_545.out
   have hns42_1 := NB524_545.out
   have hms42_0 := NB545_510.out
   have hms42_1 := NB545_524.out
   refine skip_ (w1 := ?_) (by rfl) rfl ?_ ?_
   rotate_left
   · go_simp; rfl
   refine hK.out _ _ ⟨((cell_far (p := ⟨gb545, _, none⟩) NB524_545.out _).trans (((cell_far (p := ⟨gb545, _, none⟩) NB524_545.out _).trans (((cell_far (p := ⟨gb545, _, none⟩) NB524_545.out _).trans (((cell_far (p := ⟨gb545, _, none⟩) NB524_545.out _).trans (hHeld.1)))))))), ((cell_far (p := ⟨gb545, _, none⟩) NB524_545.out _).trans (((cell_far (p := ⟨gb545, _, none⟩) NB524_545.out _).trans (((cell_far (p := ⟨gb545, _, none⟩) NB524_545.out _).trans (((cell_far (p := ⟨gb545, _, none⟩) NB524_545.out _).trans (hHeld.2.1)))))))), ((cell_far (p := ⟨gb545, _, none⟩) NB524_545.out _).trans (((cell_far (p := ⟨gb545, _, none⟩) NB524_545.out _).trans (((cell_far (p := ⟨gb545, _, none⟩) NB524_545.out _).trans (((cell_far (p := ⟨gb545, _, none⟩) NB524_545.out _).trans (hHeld.2.2.1)))))))), ((cell_far (p := ⟨gb545, _, none⟩) zb18_15 _).trans (((cell_far (p := ⟨gb545, _, none⟩) zb18_15 _).trans (((cell_far (p := ⟨gb545, _, none⟩) zb18_15 _).trans (((cell_far (p := ⟨gb545, _, none⟩) zb18_15 _).trans (hHeld.2.2.2.1)))))))), ((cell_far (p := ⟨gb545, _, none⟩) zb18_15 _).trans (((cell_far (p := ⟨gb545, _, none⟩) zb18_15 _).trans (((cell_far (p := ⟨gb545, _, none⟩) zb18_15 _).trans (((cell_far (p := ⟨gb545, _, none⟩) zb18_15 _).trans (hHeld.2.2.2.2.1)))))))), ((cell_far (p := ⟨gb545, _, none⟩) zb18_15 _).trans (((cell_far (p := ⟨gb545, _, none⟩) zb18_15 _).trans (((cell_far (p := ⟨gb545, _, none⟩) zb18_15 _).trans (((cell_far (p := ⟨gb545, _, none⟩) zb18_15 _).trans (hHeld.2.2.2.2.2.1)))))))), ((cell_far (p := ⟨gb545, _, none⟩) zb18_15 _).trans (((cell_far (p := ⟨gb545, _, none⟩) zb18_15 _).trans (((cell_far (p := ⟨gb545, _, none⟩) zb18_15 _).trans (((cell_far (p := ⟨gb545, _, none⟩) zb18_15 _).trans (hHeld.2.2.2.2.2.2))))))))⟩ (fun hHeld => ?_)
   clear hK K
   refine done_ (done_of HT_.out (by kernel_rfl)) ?_
   have hnb43 := NB545_510.out
   have hnc43 := NB510_545.out
   have hnb44 := NB545_524.out
   have hnc44 := NB524_545.out
   have hnb45 := NB545_515.out
   have hnc45 := NB515_545.out
   obtain ⟨z0, z1, z2, z3, z4, z5, z6, z7⟩ := bz4 BK545.out
   have hnb47 := NB524_510.out
   have hnc47 := NB510_524.out
   have hnb48 := NB524_515.out
   have hnc48 := NB515_524.out
   obtain ⟨z0, z1, z2, z3, z4, z5⟩ := bz3 BK524.out
   go_upto_if 46 with (first | ((with_reducible refine gate_callee (f := 12) rfl ?_); refine goesL_ (some 43) rfl rfl Tryd.func12 (by kernel_rfl) rfl #[.agg #[.string t516, .int .i64 t517, .slice (some ad544) t518.length co14], .int .i64 ((rd_T43 t518 t540).f1), .string (⟨#[107]⟩ : ByteArray)] rfl zb1_15 ?_; (with_reducible refine (spec_DbResult.calls kj5 t516 t517 _ _ t518 ((rd_T43 t518 t540).f1) (⟨#[107]⟩ : ByteArray) t546 t547 t548 t551 t552 _ ?side1 ?side2 A33.out).mono ?_); (case side1 => refine (Kd.R_reads' (e := 43) (base := w.heap.size) (ok := fun k_ => k_ ≠ gb545) (n := t518.length) (c := co14) ?_).2.2; exact zb19_15); (case side2 => exact (Kd.R_reads' HO_525002.out).2.1); rintro e w50 ⟨v549, rfl, ho0, hb⟩; refine ⟨_, rfl, ?_⟩; have HO550 := Aside0.mk (Kd.R_lower (Kd.R_newB (Kd.R_new' ho0 (Kd.R_lt zb19_15)) (g := gb545) (o := .cells #[.string ((rd_T43 t518 t540).f0), .int .i64 ((rd_T43 t518 t540).f1), .int .i64 ((rd_T43 t518 t540).f2), .string ((rd_T43 t518 t540).f3)] 43 (0, 0)) (by apply bp4; exact BK545.out)) (below_size zb17_15)); replace HO_525002 := Aside0.mk (Kd.R_elder' zb19_15 (Kd.R_base ho0) hb); replace BK510 := Aside0.mk (blk_below (g := gb510) (o := .cells #[.string (⟨#[]⟩ : ByteArray), .int .i64 0, .slice none 0 0] 25 (0, 0)) (by refine blk_far ?_ NB510_545.out _; refine blk_far ?_ NB510_545.out _; refine blk_far ?_ NB510_545.out _; refine blk_far ?_ NB510_545.out _; exact BK510.out) hb); replace BK524 := Aside0.mk (blk_below (g := gb524) (o := .cells #[.string t516, .int .i64 t517, .slice (some ad544) t518.length co14] 25 (0, 0)) (by refine blk_far ?_ NB524_545.out _; refine blk_far ?_ NB524_545.out _; refine blk_far ?_ NB524_545.out _; refine blk_far ?_ NB524_545.out _; exact BK524.out) hb); replace HI515 := Aside0.mk (IsS60.below (show IsS60 w ((((w38.setCell ⟨gb545, 0, none⟩ (.string ((rd_T43 t518 t540).f0))).setCell ⟨gb545, 1, none⟩ (.int .i64 ((rd_T43 t518 t540).f1))).setCell ⟨gb545, 2, none⟩ (.int .i64 ((rd_T43 t518 t540).f2))).setCell ⟨gb545, 3, none⟩ (.string ((rd_T43 t518 t540).f3))) g515 t511 t541 t542 t543 from by repeat ((with_reducible first | exact HI515.out | refine IsS60.far ?_ NB515_545.out _))) hb); replace BK545 := Aside0.mk (blk_below (g := gb545) (o := .cells #[.string ((rd_T43 t518 t540).f0), .int .i64 ((rd_T43 t518 t540).f1), .int .i64 ((rd_T43 t518 t540).f2), .string ((rd_T43 t518 t540).f3)] 43 (0, 0)) (by apply bp4; exact BK545.out) hb); replace HB := Aside0.mk (below_step zb17_15 hb); (try clear hb); (try clear ho0)) | ((with_reducible refine gate_dst (N := 10) rfl ?_); refine box_event ?hg (N := 10) ?hd (cs := #[.string (⟨#[]⟩ : ByteArray), .int .i64 0, .slice none 0 0, .int .i64 0, .int .i64 0]) (t := 29) ?hr ?_; (case hd => rfl); (case hg => rfl); (case hr => (go_simp; done)); intro gb553 hg w51 hbox hb; replace HO_525002 := Aside0.mk (Kd.R_below zb11_15 hb); replace HO550 := Aside0.mk (Kd.R_below (by exact HO550.out) hb); have BK553 := Aside0.mk (hbox); have GW553 := Aside0.mk ((by rw [hg]; exact (below_size zb17_15) : w.heap.size ≤ gb553)); have GE553 := Aside0.mk ((by rw [hg]; exact (below_size zb17_15) : w.heap.size ≤ gb553)); replace HB := Aside0.mk (below_step zb17_15 hb); have NB510_553 := Aside0.mk ((zb5_15 : gb510 ≠ gb553)); have NB553_510 := Aside0.mk ((zb6_15 : gb553 ≠ gb510)); replace BK510 := bkb BK510 hb; have NB524_553 := Aside0.mk ((zb13_15 : gb524 ≠ gb553)); have NB553_524 := Aside0.mk ((zb14_15 : gb553 ≠ gb524)); replace BK524 := bkb BK524 hb; have NB545_553 := Aside0.mk ((by rw [hg]; exact Nat.ne_of_lt (blk_lt (g := gb545) (o := .cells #[.string ((rd_T43 t518 t540).f0), .int .i64 ((rd_T43 t518 t540).f1), .int .i64 ((rd_T43 t518 t540).f2), .string ((rd_T43 t518 t540).f3)] 43 (0, 0)) zb15_15) : gb545 ≠ gb553)); have NB553_545 := Aside0.mk ((by rw [hg]; exact Nat.ne_of_gt (blk_lt (g := gb545) (o := .cells #[.string ((rd_T43 t518 t540).f0), .int .i64 ((rd_T43 t518 t540).f1), .int .i64 ((rd_T43 t518 t540).f2), .string ((rd_T43 t518 t540).f3)] 43 (0, 0)) zb15_15) : gb553 ≠ gb545)); replace BK545 := bkb BK545 hb; have NB515_553 := Aside0.mk ((by rw [hg]; exact Nat.ne_of_lt (IsS60.lt (show IsS60 w _ g515 t511 t541 t542 t543 from by repeat ((with_reducible (exact HI515.out))))) : g515 ≠ gb553)); have NB553_515 := Aside0.mk ((by rw [hg]; exact Nat.ne_of_gt (IsS60.lt (show IsS60 w _ g515 t511 t541 t542 t543 from by repeat ((with_reducible (exact HI515.out))))) : gb553 ≠ g515)); replace HI515 := Aside0.mk (IsS60.below zb16_15 hb); clear hb hbox hg; have hnb52 := NB553_510.out; have hnc52 := NB510_553.out; have hnb53 := NB553_524.out; have hnc53 := NB524_553.out; have hnb54 := NB553_545.out; have hnc54 := NB545_553.out; have hnb55 := NB553_515.out; have hnc55 := NB515_553.out; obtain ⟨z0, z1, z2, z3, z4, z5, z6, z7, z8, z9⟩ := bz5 BK553.out; obtain ⟨Ao57, co57, eo57⟩ := Kd.R_slice HO550.out; subst eo57))
   go_cut [] (fun wc => ∃ (kq : Nat) (x525000_33 : ByteArray) (x525001_33 : Int) (x525002_33 : List (S43)) (u525002 : Value), Aside0 (spec_DrawDbTrusts.j1 kq t528 ((rd_T43 t518 t540).f1) t511 t541 t542 t543 x525000_33 x525001_33 x525002_33 ((rd_T43 t518 t540).f0) ((rd_T43 t518 t540).f1) ((rd_T43 t518 t540).f2) ((rd_T43 t518 t540).f3) = some (r1, r2, r3, r4, r5)) ∧ Aside0 (kq ≤ kj5) ∧ Aside0 (Kd.R k43 43 wc w.heap.size (fun k_ => some k_ ≠ ((.slice none 0 0) : Value).ownBlock ∧ k_ ≠ gb545) u525002 x525002_33) ∧ Aside0 (Kd.R k43 43 wc w.heap.size (fun k_ => some k_ ≠ (u525002 : Value).ownBlock ∧ k_ ≠ gb545) (.slice none 0 0) []) ∧ Aside0 (wc.heap[gb510]? = some (.cells #[.string (⟨#[]⟩ : ByteArray), .int .i64 0, (.slice none 0 0)] 25 (0, 0))) ∧ Aside0 (wc.heap[gb524]? = some (.cells #[.string x525000_33, .int .i64 x525001_33, u525002] 25 (0, 0))) ∧ Aside0 (wc.heap[gb545]? = some (.cells #[.string ((rd_T43 t518 t540).f0), .int .i64 ((rd_T43 t518 t540).f1), .int .i64 ((rd_T43 t518 t540).f2), .string ((rd_T43 t518 t540).f3)] 43 (0, 0))) ∧ Aside0 (wc.heap[gb553]? = some (.cells #[.string t546, .int .i64 t547, (.slice Ao57 t548.length co57), .int .i64 t551, .int .i64 t552] 29 (0, 0))) ∧ Aside0 (IsS60 w wc g515 t511 t541 t542 t543) ∧ Aside0 (Below w.heap.size w wc))
   case first =>
    have H := HC34.out
    clear HC34
    by_cases c58 : t552 = 0
    rotate_left
    ·
     rw [if_neg c58] at H
     have c58b0 : (t552 == 0) = false := beq_eq_false_iff_ne.mpr c58
     have c58b1 : (t552 != 0) = true := bne_iff_ne.mpr c58
     ((rw [c58b0]))
     have H' := Aside0.mk H
     clear H
     go_wp2
     go_meet
     case rel => exact ⟨_, (t516), (t517), (t518), (.slice (some ad544) t518.length co14), H', ⟨by have := HJ5.out; omega⟩, ⟨by exact Kd.R_mono (rfa (rfa (rfa (rfa (rfa (Kd.R_types HO_525002.out BK553.out (by decide)) (fun _ h => h.2)) (fun _ h => h.2)) (fun _ h => h.2)) (fun _ h => h.2)) (fun _ h => h.2)) (fun _ hk => ⟨(fun e_ => by cases e_), hk.1.1⟩)⟩, ⟨Kd.R_nil _ _ _ _ _⟩, ⟨by refine blk_far ?_ NB510_553.out _; refine blk_far ?_ NB510_553.out _; refine blk_far ?_ NB510_553.out _; refine blk_far ?_ NB510_553.out _; refine blk_far ?_ NB510_553.out _; exact BK510.out⟩, ⟨by refine blk_far ?_ NB524_553.out _; refine blk_far ?_ NB524_553.out _; refine blk_far ?_ NB524_553.out _; refine blk_far ?_ NB524_553.out _; refine blk_far ?_ NB524_553.out _; exact BK524.out⟩, ⟨by refine blk_far ?_ NB545_553.out _; refine blk_far ?_ NB545_553.out _; refine blk_far ?_ NB545_553.out _; refine blk_far ?_ NB545_553.out _; refine blk_far ?_ NB545_553.out _; exact BK545.out⟩, ⟨by apply bp5; exact BK553.out⟩, ⟨by repeat ((with_reducible first | exact HI515.out | refine IsS60.far ?_ NB515_553.out _))⟩, ⟨by repeat ((with_reducible first | exact HB.out | refine below_set ?_ GE553.out))⟩⟩
    rw [if_pos c58] at H
    have c58b0 : (t552 == 0) = true := beq_iff_eq.mpr c58
    have c58b1 : (t552 != 0) = false := bne_eq_false_iff_eq.mpr c58
    clear c58
    ((rw [c58b0]))
    have H' := Aside0.mk H
    clear H
    have hnb59 := NB553_510.out
    have hnc59 := NB510_553.out
    have hnb60 := NB553_524.out
    have hnc60 := NB524_553.out
    have hnb61 := NB553_545.out
    have hnc61 := NB545_553.out
    have hnb62 := NB553_515.out
    have hnc62 := NB515_553.out
    obtain ⟨z0, z1, z2, z3, z4, z5, z6, z7, z8, z9⟩ := bz5 BK553.out
    have hnb64 := NB524_510.out
    have hnc64 := NB510_524.out
    have hnb65 := NB524_545.out
    have hnc65 := NB545_524.out
    have hnb66 := NB524_515.out
    have hnc66 := NB515_524.out
    obtain ⟨z0, z1, z2, z3, z4, z5⟩ := bz3 BK524.out
    go_wp2
    go_meet
    case rel => exact ⟨_, (t546), (t547), (t548), (.slice Ao57 t548.length co57), H', ⟨by have := HJ5.out; omega⟩, ⟨by exact Kd.R_mono (rfa (rfa (rfa (rfa (rfa (rfa (rfa (rfa (Kd.R_types (Kd.R_types HO550.out BK553.out (by decide)) BK524.out (by decide)) (fun _ hk => hk.1.2)) (fun _ hk => hk.1.2)) (fun _ hk => hk.1.2)) (fun _ hk => hk.1.2)) (fun _ hk => hk.1.2)) (fun _ h => h.2)) (fun _ h => h.2)) (fun _ h => h.2)) (fun _ hk => ⟨(fun e_ => by cases e_), hk.1.1.2⟩)⟩, ⟨Kd.R_nil _ _ _ _ _⟩, ⟨by refine blk_far ?_ NB510_524.out _; refine blk_far ?_ NB510_524.out _; refine blk_far ?_ NB510_524.out _; refine blk_far ?_ NB510_553.out _; refine blk_far ?_ NB510_553.out _; refine blk_far ?_ NB510_553.out _; refine blk_far ?_ NB510_553.out _; refine blk_far ?_ NB510_553.out _; exact BK510.out⟩, ⟨by apply bp3; refine blk_far ?_ NB524_553.out _; refine blk_far ?_ NB524_553.out _; refine blk_far ?_ NB524_553.out _; refine blk_far ?_ NB524_553.out _; refine blk_far ?_ NB524_553.out _; exact BK524.out⟩, ⟨by refine blk_far ?_ NB545_524.out _; refine blk_far ?_ NB545_524.out _; refine blk_far ?_ NB545_524.out _; refine blk_far ?_ NB545_553.out _; refine blk_far ?_ NB545_553.out _; refine blk_far ?_ NB545_553.out _; refine blk_far ?_ NB545_553.out _; refine blk_far ?_ NB545_553.out _; exact BK545.out⟩, ⟨by refine blk_far ?_ NB553_524.out _; refine blk_far ?_ NB553_524.out _; refine blk_far ?_ NB553_524.out _; apply bp5; exact BK553.out⟩, ⟨by repeat ((with_reducible first | exact HI515.out | refine IsS60.far ?_ NB515_524.out _ | refine IsS60.far ?_ NB515_553.out _))⟩, ⟨by repeat ((with_reducible first | exact HB.out | refine below_set ?_ GE524.out | refine below_set ?_ GE553.out))⟩⟩
   case rest =>
    clear HC34
    obtain ⟨kq, x525000_33, x525001_33, x525002_33, u525002, HA, HJ33, HO_525002, HO_554002, BK510, BK524, BK545, BK553, HI515, HB⟩ := hcut
    cases kq with
    | zero => exact absurd HA.out (by simp [spec_DrawDbTrusts.j1])
    | succ kj33 =>
     have H := HA.out
     clear HA
     simp only [spec_DrawDbTrusts.j1] at H
     replace H := Option.bind_eq_some_iff.mp H
     obtain ⟨⟨t554, t555, t556, t557⟩, A680, H⟩ := H
     (try dsimp -simprocs only at H)
     have A68 := Aside0.mk A680
     clear A680
     replace H := Option.bind_eq_some_iff.mp H
     obtain ⟨⟨t558, t559, t560, t563, t564⟩, A690, H⟩ := H
     (try dsimp -simprocs only at H)
     have A69 := Aside0.mk A690
     clear A690
     try go_wp2
     replace HO_525002 := Aside0.mk (Kd.R_drew HO_525002.out)
     replace HO_554002 := Aside0.mk (Kd.R_drew HO_554002.out)
     replace BK510 := Aside0.mk (blk_drew BK510.out)
     replace BK524 := Aside0.mk (blk_drew BK524.out)
     replace BK545 := Aside0.mk (blk_drew BK545.out)
     replace BK553 := Aside0.mk (blk_drew BK553.out)
     replace HI515 := Aside0.mk (IsS60.drew HI515.out)
     replace HB := Aside0.mk (below_drew1 HB.out)
     refine start_ (n := 7) (S := fun w' => w'.cell? ⟨gb524, 0, none⟩ = some (.string x525000_33) ∧ w'.cell? ⟨gb524, 1, none⟩ = some (.int .i64 x525001_33) ∧ w'.cell? ⟨gb524, 2, none⟩ = some (u525002)) (ds := []) zm15_15 (by kernel_rfl) rfl rfl ⟨(blk_cell BK524.out 0).trans rfl, (blk_cell BK524.out 1).trans rfl, (blk_cell BK524.out 2).trans rfl⟩ (fun hHeld => ?_)
     generalize wc.drew = w73 at HO_525002 HO_554002 BK510 BK524 BK545 BK553 HI515 HB hHeld ⊢
     refine pure_ (i := 1) (N := some 50) (v := ?_) (a' := ?_) zm16_15 rfl rfl (by kernel_rfl) (fun _ _ _ h => h) (Or.inl ⟨by rfl, ?_⟩) ?_ ?_
     rotate_left
     · intro w'; go_simp; with_reducible rfl
     rotate_left
     · simp only [Act.put, List.setIfInBounds_toArray, List.set_cons_zero, List.set_cons_succ, i64_w, i32_w]; rfl
     refine pure_ (i := 2) (N := some 51) (v := ?_) (a' := ?_) zm17_15 rfl rfl (by kernel_rfl) (fun _ _ _ h => h) (Or.inl ⟨by rfl, ?_⟩) ?_ ?_
     rotate_left
     · intro w'; go_simp; with_reducible rfl
     rotate_left
     · simp only [Act.put, List.setIfInBounds_toArray, List.set_cons_zero, List.set_cons_succ, i64_w, i32_w]; rfl
     refine take_ (i := 0) (N := some 49) (v := ?_) (a' := ?_) zm18_15 rfl rfl (by kernel_rfl) (fun _ _ _ h => h) (Or.inl ⟨by rfl, ?_⟩) hHeld ?_ ?_
     rotate_left
     · rintro w' ⟨s0, s1, s2⟩; go_simp; with_reducible rfl
     rotate_left
     · simp only [Act.put, List.setIfInBounds_toArray, List.set_cons_zero, List.set_cons_succ, i64_w, i32_w]; rfl
     refine one_ (i := 3) (N := some 52) zm19_15 rfl rfl (by kernel_rfl) (by decide) (fun K hK => ?_)
     refine goes_ Tryd.func28 (by kernel_rfl) rfl #[.pointer (some ⟨g515, 0, none⟩), .int .i64 4] (by rfl) rfl rfl zb1_15 ?_
     with_reducible refine (spec_l01Src_one.calls g515 t511 t541 t542 t543 4 t554 t555 t556 t557 w _ ?side1 ?side2 A68.out).mono ?_
     (case side1 => repeat ((with_reducible (exact HI515.out))))
     (case side2 => repeat ((with_reducible (exact HB.out))))
     rintro e w74 ⟨rfl, hi, hb, hk⟩
     refine ⟨_, rfl, ?_⟩
     replace HO_525002 := Aside0.mk (Kd.R_mono (Kd.R_keep (IsS60.apart (show IsS60 w _ g515 t511 t541 t542 t543 from by repeat ((with_reducible (exact HI515.out)))) zb11_15 (by decide)) hk (fun _ h => h.2)) (fun _ h => h.1))
     replace HO_554002 := Aside0.mk (Kd.R_mono (Kd.R_keep (IsS60.apart (show IsS60 w _ g515 t511 t541 t542 t543 from by repeat ((with_reducible (exact HI515.out)))) zb20_15 (by decide)) hk (fun _ h => h.2)) (fun _ h => h.1))
     replace BK510 := Aside0.mk (KeepBut.blk hk (g' := gb510) (o := .cells #[.string (⟨#[]⟩ : ByteArray), .int .i64 0, .slice none 0 0] 25 (0, 0)) zb2_15 NB510_515.out (by simp))
     replace BK524 := Aside0.mk (KeepBut.blk hk (g' := gb524) (o := .cells #[.string x525000_33, .int .i64 x525001_33, u525002] 25 (0, 0)) zb8_15 NB524_515.out (by simp))
     replace BK545 := Aside0.mk (KeepBut.blk hk (g' := gb545) (o := .cells #[.string ((rd_T43 t518 t540).f0), .int .i64 ((rd_T43 t518 t540).f1), .int .i64 ((rd_T43 t518 t540).f2), .string ((rd_T43 t518 t540).f3)] 43 (0, 0)) zb15_15 NB545_515.out (by simp))
     replace BK553 := Aside0.mk (KeepBut.blk hk (g' := gb553) (o := .cells #[.string t546, .int .i64 t547, .slice Ao57 t548.length co57, .int .i64 t551, .int .i64 t552] 29 (0, 0)) zb21_15 NB553_515.out (by simp))
     replace HB := Aside0.mk (hb)
     replace HI515 := Aside0.mk (hi)
     (try clear hb)
     (try clear hk)
     (try clear hi)
     obtain ⟨Ao75, co75, eo75⟩ := Kd.R_slice HO_525002.out
     ((subst eo75))
     refine hK.out _ _ zk1_15 (fun hHeld => ?_)
     clear hK K
     refine zn (some 52) ?_
     refine pure_ (i := 4) (N := some 53) (v := ?_) (a' := ?_) zm20_15 rfl rfl (by kernel_rfl) (fun _ _ _ h => h) (Or.inl ⟨by rfl, ?_⟩) ?_ ?_
     rotate_left
     · intro w'; go_simp; with_reducible rfl
     rotate_left
     · simp only [Act.put, List.setIfInBounds_toArray, List.set_cons_zero, List.set_cons_succ, i64_w, i32_w]; rfl
     refine one_ (i := 5) (N := some 54) zm21_15 rfl rfl (by kernel_rfl) (by decide) (fun K hK => ?_)
     refine goes_ Tryd.func13 (by kernel_rfl) rfl #[.agg #[.string x525000_33, .int .i64 x525001_33, .slice Ao75 x525002_33.length co75], .int .i64 ((rd_T43 t518 t540).f1), .bool (!t554)] (by rfl) rfl rfl zb1_15 ?_
     with_reducible refine (spec_DbVerified.calls kj33 x525000_33 x525001_33 _ _ x525002_33 ((rd_T43 t518 t540).f1) (!t554) t558 t559 t560 t563 t564 _ ?side1 ?side2 A69.out).mono ?_
     (case side1 => repeat ((exact (Kd.R_reads' HO_525002.out).2.2)))
     (case side2 => exact (Kd.R_reads' HO_525002.out).2.1)
     rintro e w76 ⟨v561, rfl, ho0, hb⟩
     refine ⟨_, rfl, ?_⟩
     have HO562 := Aside0.mk (Kd.R_lower (Kd.R_newB (Kd.R_new' (Kd.R_new' ho0 (Kd.R_lt zb11_15)) (Kd.R_lt zb20_15)) (g := gb545) (o := .cells #[.string ((rd_T43 t518 t540).f0), .int .i64 ((rd_T43 t518 t540).f1), .int .i64 ((rd_T43 t518 t540).f2), .string ((rd_T43 t518 t540).f3)] 43 (0, 0)) zb15_15) (below_size zb22_15))
     replace HO_525002 := Aside0.mk (Kd.R_elder' zb11_15 (Kd.R_base ho0) hb)
     replace BK510 := bkb BK510 hb
     replace BK524 := bkb BK524 hb
     replace BK545 := bkb BK545 hb
     replace BK553 := bkb BK553 hb
     replace HI515 := Aside0.mk (IsS60.below zb23_15 hb)
     replace HB := Aside0.mk (below_step zb22_15 hb)
     (try clear hb)
     (try clear ho0)
     obtain ⟨Ao79, co79, eo79⟩ := Kd.R_slice HO562.out
     ((subst eo79))
     refine hK.out _ _ zk1_15 (fun hHeld => ?_)
     clear hK K
     refine zn (some 54) ?_
     refine one_ (i := 6) (N := none) zm22_15 rfl rfl (by kernel_rfl) (by decide) (fun K hK => ?_)
     have hs77 : w76.cell? ⟨gb553, 0, none⟩ = some (.string t546) := (blk_cell BK553.out 0).trans rfl
     have hfs77 := blk_frozen BK553.out 0
     have hns77_0 := NB510_553.out
     have hns77_1 := NB524_553.out
     have hns77_2 := NB545_553.out
     have hms77_0 := NB553_510.out
     have hms77_1 := NB553_524.out
     have hms77_2 := NB553_545.out
     have hs78 : w76.cell? ⟨gb553, 1, none⟩ = some (.int .i64 t547) := (blk_cell BK553.out 1).trans rfl
     have hfs78 := blk_frozen BK553.out 1
     have hns78_0 := NB510_553.out
     have hns78_1 := NB524_553.out
     have hns78_2 := NB545_553.out
     have hms78_0 := NB553_510.out
     have hms78_1 := NB553_524.out
     have hms78_2 := NB553_545.out
     have hs80 : w76.cell? ⟨gb553, 2, none⟩ = some (.slice Ao57 t548.length co57) := (blk_cell BK553.out 2).trans rfl
     have hfs80 := blk_frozen BK553.out 2
     have hns80_0 := NB510_553.out
     have hns80_1 := NB524_553.out
     have hns80_2 := NB545_553.out
     have hms80_0 := NB553_510.out
     have hms80_1 := NB553_524.out
     have hms80_2 := NB553_545.out
     have hs81 : w76.cell? ⟨gb553, 3, none⟩ = some (.int .i64 t551) := (blk_cell BK553.out 3).trans rfl
     have hfs81 := blk_frozen BK553.out 3
     have hns81_0 := NB510_553.out
     have hns81_1 := NB524_553.out
     have hns81_2 := NB545_553.out
     have hms81_0 := NB553_510.out
     have hms81_1 := NB553_524.out
     have hms81_2 := NB553_545.out
     have hs82 : w76.cell? ⟨gb553, 4, none⟩ = some (.int .i64 t552) := (blk_cell BK553.out 4).trans rfl
     have hfs82 := blk_frozen BK553.out 4
     have hns82_0 := NB510_553.out
     have hns82_1 := NB524_553.out
     have hns82_2 := NB545_553.out
     have hms82_0 := NB553_510.out
     have hms82_1 := NB553_524.out
     have hms82_2 := NB553_545.out
     refine skip_ (w1 := ?_) (by rfl) rfl ?_ ?_
     rotate_left
     · go_simp; rfl
     refine hK.out _ _ ⟨((cell_far (p := ⟨gb553, _, none⟩) NB524_553.out _).trans (((cell_far (p := ⟨gb553, _, none⟩) NB524_553.out _).trans (((cell_far (p := ⟨gb553, _, none⟩) NB524_553.out _).trans (((cell_far (p := ⟨gb553, _, none⟩) NB524_553.out _).trans (((cell_far (p := ⟨gb553, _, none⟩) NB524_553.out _).trans (hHeld.1)))))))))), ((cell_far (p := ⟨gb553, _, none⟩) NB524_553.out _).trans (((cell_far (p := ⟨gb553, _, none⟩) NB524_553.out _).trans (((cell_far (p := ⟨gb553, _, none⟩) NB524_553.out _).trans (((cell_far (p := ⟨gb553, _, none⟩) NB524_553.out _).trans (((cell_far (p := ⟨gb553, _, none⟩) NB524_553.out _).trans (hHeld.2.1)))))))))), ((cell_far (p := ⟨gb553, _, none⟩) NB524_553.out _).trans (((cell_far (p := ⟨gb553, _, none⟩) NB524_553.out _).trans (((cell_far (p := ⟨gb553, _, none⟩) NB524_553.out _).trans (((cell_far (p := ⟨gb553, _, none⟩) NB524_553.out _).trans (((cell_far (p := ⟨gb553, _, none⟩) NB524_553.out _).trans (hHeld.2.2))))))))))⟩ (fun hHeld => ?_)
     clear hK K
     refine done_ (by kernel_rfl) ?_
     have hnb83 := NB553_510.out
     have hnc83 := NB510_553.out
     have hnb84 := NB553_524.out
     have hnc84 := NB524_553.out
     have hnb85 := NB553_545.out
     have hnc85 := NB545_553.out
     have hnb86 := NB553_515.out
     have hnc86 := NB515_553.out
     obtain ⟨z0, z1, z2, z3, z4, z5, z6, z7, z8, z9⟩ := bz5 BK553.out
     by_cases c70 : t564 = 0
     rotate_left
     ·
      rw [if_neg c70] at H
      have c70b0 : (t564 == 0) = false := beq_eq_false_iff_ne.mpr c70
      have c70b1 : (t564 != 0) = true := bne_iff_ne.mpr c70
      replace H := Option.bind_eq_some_iff.mp H
      obtain ⟨⟨t569, t570, t571, t572⟩, A1230, H⟩ := H
      (try dsimp -simprocs only at H)
      have A123 := Aside0.mk A1230
      clear A1230
      (try rw [c70b0])
      (try rw [c70b1])
      by_cases c124 : t569 = true
      ·
       subst c124
       rw [if_pos rfl] at H
       simp only [Option.some.injEq, Prod.mk.injEq] at H
       obtain ⟨rfl, rfl, rfl, rfl, rfl⟩ := H
       try go_wp2_with (((with_reducible refine gate_callee (f := 28) rfl ?_); refine goesL_ (some 61) rfl rfl Tryd.func28 (by kernel_rfl) rfl #[.pointer (some ⟨g515, 0, none⟩), .int .i64 5] rfl zb1_15 ?_; (with_reducible refine (spec_l01Src_one.calls g515 t511 t555 t556 t557 5 true t570 t571 t572 w _ ?side1 ?side2 A123.out).mono ?_); (case side1 => repeat ((with_reducible first | exact HI515.out | refine IsS60.far ?_ NB515_553.out _))); (case side2 => repeat ((with_reducible first | exact HB.out | refine below_set ?_ GE553.out))); rintro e w140 ⟨rfl, hi, hb, hk⟩; refine ⟨_, rfl, ?_⟩; replace HO_525002 := Aside0.mk (Kd.R_mono (Kd.R_keep (IsS60.apart (show IsS60 w _ g515 t511 t555 t556 t557 from by repeat ((with_reducible first | exact HI515.out | refine IsS60.far ?_ NB515_553.out _))) (by exact (Kd.R_mono (rfa (rfa (rfa (rfa (rfa (Kd.R_types HO_525002.out BK553.out (by decide)) (fun _ h => h.2)) (fun _ h => h.2)) (fun _ h => h.2)) (fun _ h => h.2)) (fun _ h => h.2)) (fun _ h_ => h_.1))) (by decide)) hk (fun _ h => h.2)) (fun _ h => h.1)); replace BK510 := Aside0.mk (KeepBut.blk hk (g' := gb510) (o := .cells #[.string (⟨#[]⟩ : ByteArray), .int .i64 0, .slice none 0 0] 25 (0, 0)) (by refine blk_far ?_ NB510_553.out _; refine blk_far ?_ NB510_553.out _; refine blk_far ?_ NB510_553.out _; refine blk_far ?_ NB510_553.out _; refine blk_far ?_ NB510_553.out _; exact BK510.out) NB510_515.out (by simp)); replace BK524 := Aside0.mk (KeepBut.blk hk (g' := gb524) (o := .cells #[.string x525000_33, .int .i64 x525001_33, .slice Ao75 x525002_33.length co75] 25 (0, 0)) (by refine blk_far ?_ NB524_553.out _; refine blk_far ?_ NB524_553.out _; refine blk_far ?_ NB524_553.out _; refine blk_far ?_ NB524_553.out _; refine blk_far ?_ NB524_553.out _; exact BK524.out) NB524_515.out (by simp)); replace BK553 := Aside0.mk (KeepBut.blk hk (g' := gb553) (o := .cells #[.string t558, .int .i64 t559, .slice Ao79 t560.length co79, .int .i64 t563, .int .i64 t564] 29 (0, 0)) (by apply bp5; exact BK553.out) NB553_515.out (by simp)); replace HB := Aside0.mk (hb); replace HI515 := Aside0.mk (hi); (try clear hb); (try clear hk); (try clear hi); have hnb141 := NB524_510.out; have hnc141 := NB510_524.out; have hnb142 := NB524_545.out; have hnc142 := NB545_524.out; have hnb143 := NB524_515.out; have hnc143 := NB515_524.out; obtain ⟨z0, z1, z2, z3, z4, z5⟩ := bz3 BK524.out; have hnb145 := NB510_545.out; have hnc145 := NB545_510.out; have hnb146 := NB510_515.out; have hnc146 := NB515_510.out; obtain ⟨z0, z1, z2, z3, z4, z5⟩ := bz3 BK510.out))
       refine bodyPost_ret (results_ctt rfl _ _ gb510 25 #[.string x525000_33, .int .i64 x525001_33, .slice Ao75 x525002_33.length co75] (0, 0) _ rfl (by apply bp3; exact BK510.out) Tryd.underlying25 rfl (by kernel_rfl)) rfl ?_
       exact ⟨_, by rfl, by exact Kd.R_mono (rfa (rfa (rfa (Kd.R_types HO_525002.out BK510.out (by decide)) (fun _ h => h.2)) (fun _ h => h.2)) (fun _ h => h.2)) (fun _ hk => trivial), by repeat ((with_reducible first | exact HB.out | refine below_set ?_ GE510.out))⟩
      replace c124 := Bool.eq_false_iff.mpr c124
      subst c124
      rw [if_neg (show ¬ (false = true) by decide)] at H
      simp only [Option.some.injEq, Prod.mk.injEq] at H
      obtain ⟨rfl, rfl, rfl, rfl, rfl⟩ := H
      try go_wp2_with (((with_reducible refine gate_callee (f := 28) rfl ?_); refine goesL_ (some 61) rfl rfl Tryd.func28 (by kernel_rfl) rfl #[.pointer (some ⟨g515, 0, none⟩), .int .i64 5] rfl zb1_15 ?_; (with_reducible refine (spec_l01Src_one.calls g515 t511 t555 t556 t557 5 false t570 t571 t572 w _ ?side1 ?side2 A123.out).mono ?_); (case side1 => repeat ((with_reducible first | exact HI515.out | refine IsS60.far ?_ NB515_553.out _))); (case side2 => repeat ((with_reducible first | exact HB.out | refine below_set ?_ GE553.out))); rintro e w163 ⟨rfl, hi, hb, hk⟩; refine ⟨_, rfl, ?_⟩; replace HO_525002 := Aside0.mk (Kd.R_mono (Kd.R_keep (IsS60.apart (show IsS60 w _ g515 t511 t555 t556 t557 from by repeat ((with_reducible first | exact HI515.out | refine IsS60.far ?_ NB515_553.out _))) (by exact (Kd.R_mono (rfa (rfa (rfa (rfa (rfa (Kd.R_types HO_525002.out BK553.out (by decide)) (fun _ h => h.2)) (fun _ h => h.2)) (fun _ h => h.2)) (fun _ h => h.2)) (fun _ h => h.2)) (fun _ h_ => h_.1))) (by decide)) hk (fun _ h => h.2)) (fun _ h => h.1)); replace BK510 := Aside0.mk (KeepBut.blk hk (g' := gb510) (o := .cells #[.string (⟨#[]⟩ : ByteArray), .int .i64 0, .slice none 0 0] 25 (0, 0)) (by refine blk_far ?_ NB510_553.out _; refine blk_far ?_ NB510_553.out _; refine blk_far ?_ NB510_553.out _; refine blk_far ?_ NB510_553.out _; refine blk_far ?_ NB510_553.out _; exact BK510.out) NB510_515.out (by simp)); replace BK524 := Aside0.mk (KeepBut.blk hk (g' := gb524) (o := .cells #[.string x525000_33, .int .i64 x525001_33, .slice Ao75 x525002_33.length co75] 25 (0, 0)) (by refine blk_far ?_ NB524_553.out _; refine blk_far ?_ NB524_553.out _; refine blk_far ?_ NB524_553.out _; refine blk_far ?_ NB524_553.out _; refine blk_far ?_ NB524_553.out _; exact BK524.out) NB524_515.out (by simp)); replace BK545 := Aside0.mk (KeepBut.blk hk (g' := gb545) (o := .cells #[.string ((rd_T43 t518 t540).f0), .int .i64 ((rd_T43 t518 t540).f1), .int .i64 ((rd_T43 t518 t540).f2), .string ((rd_T43 t518 t540).f3)] 43 (0, 0)) (by refine blk_far ?_ NB545_553.out _; refine blk_far ?_ NB545_553.out _; refine blk_far ?_ NB545_553.out _; refine blk_far ?_ NB545_553.out _; refine blk_far ?_ NB545_553.out _; exact BK545.out) NB545_515.out (by simp)); replace BK553 := Aside0.mk (KeepBut.blk hk (g' := gb553) (o := .cells #[.string t558, .int .i64 t559, .slice Ao79 t560.length co79, .int .i64 t563, .int .i64 t564] 29 (0, 0)) (by apply bp5; exact BK553.out) NB553_515.out (by simp)); replace HB := Aside0.mk (hb); replace HI515 := Aside0.mk (hi); (try clear hb); (try clear hk); (try clear hi); have hnb164 := NB545_510.out; have hnc164 := NB510_545.out; have hnb165 := NB545_524.out; have hnc165 := NB524_545.out; have hnb166 := NB545_515.out; have hnc166 := NB515_545.out; obtain ⟨z0, z1, z2, z3, z4, z5, z6, z7⟩ := bz4 BK545.out; have hnb168 := NB524_510.out; have hnc168 := NB510_524.out; have hnb169 := NB524_515.out; have hnc169 := NB515_524.out; obtain ⟨z0, z1, z2, z3, z4, z5⟩ := bz3 BK524.out; have hnb171 := NB510_515.out; have hnc171 := NB515_510.out; obtain ⟨z0, z1, z2, z3, z4, z5⟩ := bz3 BK510.out))
      refine bodyPost_ret (results_ctt rfl _ _ gb510 25 #[.string x525000_33, .int .i64 x525001_33, .slice Ao75 x525002_33.length co75] (0, 0) _ rfl (by apply bp3; exact BK510.out) Tryd.underlying25 rfl (by kernel_rfl)) rfl ?_
      exact ⟨_, by rfl, by exact Kd.R_mono (rfa (rfa (rfa (Kd.R_types HO_525002.out BK510.out (by decide)) (fun _ h => h.2)) (fun _ h => h.2)) (fun _ h => h.2)) (fun _ hk => trivial), by repeat ((with_reducible first | exact HB.out | refine below_set ?_ GE510.out))⟩
     rw [if_pos c70] at H
     have c70b0 : (t564 == 0) = true := beq_iff_eq.mpr c70
     have c70b1 : (t564 != 0) = false := bne_eq_false_iff_eq.mpr c70
     clear c70
     replace H := Option.bind_eq_some_iff.mp H
     obtain ⟨⟨t565, t566, t567, t568⟩, A710, H⟩ := H
     (try dsimp -simprocs only at H)
     have A71 := Aside0.mk A710
     clear A710
     (try rw [c70b0])
     (try rw [c70b1])
     have hnb88 := NB524_510.out
     have hnc88 := NB510_524.out
     have hnb89 := NB524_545.out
     have hnc89 := NB545_524.out
     have hnb90 := NB524_515.out
     have hnc90 := NB515_524.out
     obtain ⟨z0, z1, z2, z3, z4, z5⟩ := bz3 BK524.out
     by_cases c72 : t565 = true
     ·
      subst c72
      rw [if_pos rfl] at H
      simp only [Option.some.injEq, Prod.mk.injEq] at H
      obtain ⟨rfl, rfl, rfl, rfl, rfl⟩ := H
      try go_wp2_with (((with_reducible refine gate_callee (f := 28) rfl ?_); refine goesL_ (some 61) rfl rfl Tryd.func28 (by kernel_rfl) rfl #[.pointer (some ⟨g515, 0, none⟩), .int .i64 5] rfl zb1_15 ?_; (with_reducible refine (spec_l01Src_one.calls g515 t511 t555 t556 t557 5 true t566 t567 t568 w _ ?side1 ?side2 A71.out).mono ?_); (case side1 => repeat ((with_reducible first | exact HI515.out | refine IsS60.far ?_ NB515_524.out _ | refine IsS60.far ?_ NB515_553.out _))); (case side2 => repeat ((with_reducible first | exact HB.out | refine below_set ?_ GE524.out | refine below_set ?_ GE553.out))); rintro e w92 ⟨rfl, hi, hb, hk⟩; refine ⟨_, rfl, ?_⟩; replace BK510 := Aside0.mk (KeepBut.blk hk (g' := gb510) (o := .cells #[.string (⟨#[]⟩ : ByteArray), .int .i64 0, .slice none 0 0] 25 (0, 0)) (by refine blk_far ?_ NB510_524.out _; refine blk_far ?_ NB510_524.out _; refine blk_far ?_ NB510_524.out _; refine blk_far ?_ NB510_553.out _; refine blk_far ?_ NB510_553.out _; refine blk_far ?_ NB510_553.out _; refine blk_far ?_ NB510_553.out _; refine blk_far ?_ NB510_553.out _; exact BK510.out) NB510_515.out (by simp)); replace HO562 := Aside0.mk (Kd.R_mono (Kd.R_keep (IsS60.apart (show IsS60 w _ g515 t511 t555 t556 t557 from by repeat ((with_reducible first | exact HI515.out | refine IsS60.far ?_ NB515_524.out _ | refine IsS60.far ?_ NB515_553.out _))) (by exact (Kd.R_mono (Kd.R_mono (rfa (rfa (rfa (rfa (rfa (rfa (rfa (rfa (Kd.R_types (Kd.R_types HO562.out BK553.out (by decide)) BK524.out (by decide)) (fun _ hk => hk.1.2)) (fun _ hk => hk.1.2)) (fun _ hk => hk.1.2)) (fun _ hk => hk.1.2)) (fun _ hk => hk.1.2)) (fun _ h => h.2)) (fun _ h => h.2)) (fun _ h => h.2)) (fun _ h_ => h_.1)) (fun _ h_ => h_.1))) (by decide)) hk (fun _ h => h.2)) (fun _ h => h.1)); replace BK524 := Aside0.mk (KeepBut.blk hk (g' := gb524) (o := .cells #[.string t558, .int .i64 t559, .slice Ao79 t560.length co79] 25 (0, 0)) (by apply bp3; refine blk_far ?_ NB524_553.out _; refine blk_far ?_ NB524_553.out _; refine blk_far ?_ NB524_553.out _; refine blk_far ?_ NB524_553.out _; refine blk_far ?_ NB524_553.out _; exact BK524.out) NB524_515.out (by simp)); replace BK553 := Aside0.mk (KeepBut.blk hk (g' := gb553) (o := .cells #[.string t558, .int .i64 t559, .slice Ao79 t560.length co79, .int .i64 t563, .int .i64 t564] 29 (0, 0)) (by refine blk_far ?_ NB553_524.out _; refine blk_far ?_ NB553_524.out _; refine blk_far ?_ NB553_524.out _; apply bp5; exact BK553.out) NB553_515.out (by simp)); replace HB := Aside0.mk (hb); replace HI515 := Aside0.mk (hi); (try clear hb); (try clear hk); (try clear hi); obtain ⟨z0, z1, z2, z3, z4, z5⟩ := bz3 BK524.out; have hnb94 := NB510_545.out; have hnc94 := NB545_510.out; have hnb95 := NB510_515.out; have hnc95 := NB515_510.out; obtain ⟨z0, z1, z2, z3, z4, z5⟩ := bz3 BK510.out))
      refine bodyPost_ret (results_ctt rfl _ _ gb510 25 #[.string t558, .int .i64 t559, .slice Ao79 t560.length co79] (0, 0) _ rfl (by apply bp3; exact BK510.out) Tryd.underlying25 rfl (by kernel_rfl)) rfl ?_
      exact ⟨_, by rfl, by exact Kd.R_mono (rfa (rfa (rfa (Kd.R_types HO562.out BK510.out (by decide)) (fun _ h => h.2)) (fun _ h => h.2)) (fun _ h => h.2)) (fun _ hk => trivial), by repeat ((with_reducible first | exact HB.out | refine below_set ?_ GE510.out))⟩
     replace c72 := Bool.eq_false_iff.mpr c72
     subst c72
     rw [if_neg (show ¬ (false = true) by decide)] at H
     simp only [Option.some.injEq, Prod.mk.injEq] at H
     obtain ⟨rfl, rfl, rfl, rfl, rfl⟩ := H
     try go_wp2_with (((with_reducible refine gate_callee (f := 28) rfl ?_); refine goesL_ (some 61) rfl rfl Tryd.func28 (by kernel_rfl) rfl #[.pointer (some ⟨g515, 0, none⟩), .int .i64 5] rfl zb1_15 ?_; (with_reducible refine (spec_l01Src_one.calls g515 t511 t555 t556 t557 5 false t566 t567 t568 w _ ?side1 ?side2 A71.out).mono ?_); (case side1 => repeat ((with_reducible first | exact HI515.out | refine IsS60.far ?_ NB515_524.out _ | refine IsS60.far ?_ NB515_553.out _))); (case side2 => repeat ((with_reducible first | exact HB.out | refine below_set ?_ GE524.out | refine below_set ?_ GE553.out))); rintro e w116 ⟨rfl, hi, hb, hk⟩; refine ⟨_, rfl, ?_⟩; replace BK510 := Aside0.mk (KeepBut.blk hk (g' := gb510) (o := .cells #[.string (⟨#[]⟩ : ByteArray), .int .i64 0, .slice none 0 0] 25 (0, 0)) (by refine blk_far ?_ NB510_524.out _; refine blk_far ?_ NB510_524.out _; refine blk_far ?_ NB510_524.out _; refine blk_far ?_ NB510_553.out _; refine blk_far ?_ NB510_553.out _; refine blk_far ?_ NB510_553.out _; refine blk_far ?_ NB510_553.out _; refine blk_far ?_ NB510_553.out _; exact BK510.out) NB510_515.out (by simp)); replace BK545 := Aside0.mk (KeepBut.blk hk (g' := gb545) (o := .cells #[.string ((rd_T43 t518 t540).f0), .int .i64 ((rd_T43 t518 t540).f1), .int .i64 ((rd_T43 t518 t540).f2), .string ((rd_T43 t518 t540).f3)] 43 (0, 0)) (by refine blk_far ?_ NB545_524.out _; refine blk_far ?_ NB545_524.out _; refine blk_far ?_ NB545_524.out _; refine blk_far ?_ NB545_553.out _; refine blk_far ?_ NB545_553.out _; refine blk_far ?_ NB545_553.out _; refine blk_far ?_ NB545_553.out _; refine blk_far ?_ NB545_553.out _; exact BK545.out) NB545_515.out (by simp)); replace HO562 := Aside0.mk (Kd.R_mono (Kd.R_keep (IsS60.apart (show IsS60 w _ g515 t511 t555 t556 t557 from by repeat ((with_reducible first | exact HI515.out | refine IsS60.far ?_ NB515_524.out _ | refine IsS60.far ?_ NB515_553.out _))) (by exact (Kd.R_mono (Kd.R_mono (rfa (rfa (rfa (rfa (rfa (rfa (rfa (rfa (Kd.R_types (Kd.R_types HO562.out BK553.out (by decide)) BK524.out (by decide)) (fun _ hk => hk.1.2)) (fun _ hk => hk.1.2)) (fun _ hk => hk.1.2)) (fun _ hk => hk.1.2)) (fun _ hk => hk.1.2)) (fun _ h => h.2)) (fun _ h => h.2)) (fun _ h => h.2)) (fun _ h_ => h_.1)) (fun _ h_ => h_.1))) (by decide)) hk (fun _ h => h.2)) (fun _ h => h.1)); replace BK524 := Aside0.mk (KeepBut.blk hk (g' := gb524) (o := .cells #[.string t558, .int .i64 t559, .slice Ao79 t560.length co79] 25 (0, 0)) (by apply bp3; refine blk_far ?_ NB524_553.out _; refine blk_far ?_ NB524_553.out _; refine blk_far ?_ NB524_553.out _; refine blk_far ?_ NB524_553.out _; refine blk_far ?_ NB524_553.out _; exact BK524.out) NB524_515.out (by simp)); replace BK553 := Aside0.mk (KeepBut.blk hk (g' := gb553) (o := .cells #[.string t558, .int .i64 t559, .slice Ao79 t560.length co79, .int .i64 t563, .int .i64 t564] 29 (0, 0)) (by refine blk_far ?_ NB553_524.out _; refine blk_far ?_ NB553_524.out _; refine blk_far ?_ NB553_524.out _; apply bp5; exact BK553.out) NB553_515.out (by simp)); replace HB := Aside0.mk (hb); replace HI515 := Aside0.mk (hi); (try clear hb); (try clear hk); (try clear hi); have hnb117 := NB545_510.out; have hnc117 := NB510_545.out; have hnb118 := NB545_515.out; have hnc118 := NB515_545.out; obtain ⟨z0, z1, z2, z3, z4, z5, z6, z7⟩ := bz4 BK545.out; obtain ⟨z0, z1, z2, z3, z4, z5⟩ := bz3 BK524.out; have hnb121 := NB510_515.out; have hnc121 := NB515_510.out; obtain ⟨z0, z1, z2, z3, z4, z5⟩ := bz3 BK510.out))
     refine bodyPost_ret (results_ctt rfl _ _ gb510 25 #[.string t558, .int .i64 t559, .slice Ao79 t560.length co79] (0, 0) _ rfl (by apply bp3; exact BK510.out) Tryd.underlying25 rfl (by kernel_rfl)) rfl ?_
     exact ⟨_, by rfl, by exact Kd.R_mono (rfa (rfa (rfa (Kd.R_types HO562.out BK510.out (by decide)) (fun _ h => h.2)) (fun _ h => h.2)) (fun _ h => h.2)) (fun _ hk => trivial), by repeat ((with_reducible first | exact HB.out | refine below_set ?_ GE510.out))⟩
end Go.Proofs.YtfijkimkdccioaaDoor.QFnDialback
