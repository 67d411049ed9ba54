-- laid by this session's own runner (wip/print2.py): not a printed file
import Derived.Test.YtjchggdekbnmnaaDoorQFnExactDbVerifiedx0
import Derived.Test.YtjchggdekbnmnaaDoorQFnExactDbVerifiedx1
import Derived.Test.YtjchggdekbnmnaaDoorQFnExactDbVerifiedx2
import Derived.Test.YtjchggdekbnmnaaDoorQFnExactDbVerifiedx4
import Derived.Test.YtjchggdekbnmnaaDoorQFnExactDbVerifiedx6
import Derived.Test.YtjchggdekbnmnaaDoorQFnExactDbVerifiedx9
namespace Go.Proofs.YtjchggdekbnmnaaDoor.QFnExactDbVerified
open Go.RowKit Go.Proofs.YtjchggdekbnmnaaDoorW.PrintWords Go.Proofs.YtjchggdekbnmnaaDoorW.PrintLast Go.Proofs.YtjchggdekbnmnaaDoorW.PrintMore
attribute [local go_sem] max2_int min2_int max_two min_two max_three min_three max_four min_four   -- for this text's walks alone
set_option linter.unusedVariables false
set_option linter.unusedSimpArgs false

theorem zb0_10 {P : Prop} (h : P := by repeat (first | (with_reducible first | exact HB.out | apply below_alloc | apply pw_below_drewN | apply below_drew1) | exact HB.out)) : P := h
theorem zb1_10 {P : Prop} (h : P := by rw [hg]; exact (below_size (by repeat (first | (with_reducible first | exact HB.out | apply below_alloc | apply pw_below_drewN | apply below_drew1) | exact HB.out)))) : P := h
theorem zb2_10 {P : Prop} (h : P := by (try simp only [List.map_toArray, List.map_cons, List.map_nil]); first | done | rfl | (simp only [List.length_drop, List.length_take]; rfl)) : P := h
theorem zb3_10 {P : Prop} (h : P := by (with_reducible repeat (first | refine blk_drewN ?_ _ | refine blk_drew ?_ | refine blk_alloc ?_ _)); exact BK278.out) : P := h
theorem zb4_10 {P : Prop} (h : P := by repeat (first | (with_reducible first | exact HB.out | apply below_alloc | apply pw_below_drewN | apply below_drew1 | refine below_set ?_ GE278.out) | exact HB.out)) : P := h
theorem zb5_10 {P : Prop} (h : P := by (with_reducible repeat (first | apply Kd.R_alloc | apply Kd.R_drewN | apply Kd.R_drew)); exact HO284.out) : P := h
theorem zb6_10 {P : Prop} (h : P := by (with_reducible repeat (first | apply Kd.R_alloc | apply Kd.R_drewN | apply Kd.R_drew)); exact HO289.out) : P := h
theorem zb7_10 {P : Prop} (h : P := by rw [hg]; exact Nat.ne_of_lt (blk_lt (g := gb278) (o := .cells #[.string a0_0, .int .i64 a0_1, .slice A0_2 l0_2.length c0_2] 35 (0, 0)) (by (with_reducible repeat (first | refine blk_drewN ?_ _ | refine blk_drew ?_ | refine blk_alloc ?_ _)); exact BK278.out))) : P := h
theorem zb8_10 {P : Prop} (h : P := by rw [hg]; exact Nat.ne_of_gt (blk_lt (g := gb278) (o := .cells #[.string a0_0, .int .i64 a0_1, .slice A0_2 l0_2.length c0_2] 35 (0, 0)) (by (with_reducible repeat (first | refine blk_drewN ?_ _ | refine blk_drew ?_ | refine blk_alloc ?_ _)); exact BK278.out))) : P := h
theorem zb9_10 {P : Prop} (h : P := by repeat (first | (with_reducible first | exact HB.out | apply below_alloc | apply pw_below_drewN | apply below_drew1 | refine below_set ?_ GE278.out | refine below_set ?_ GE292.out) | exact HB.out)) : P := h
theorem zb10_10 {P : Prop} (h : P := by (with_reducible repeat (first | apply Kd.R_alloc | apply Kd.R_drewN | apply Kd.R_drew)); exact HO297.out) : P := h
theorem zb11_10 {P : Prop} (h : P := by (with_reducible repeat (first | refine blk_drewN ?_ _ | refine blk_drew ?_ | refine blk_alloc ?_ _)); exact BK292.out) : P := h
theorem zb12_10 {P : Prop} (h : P := by rw [hg]; exact Nat.ne_of_lt (blk_lt (g := gb292) (o := .cells #[.string t285, .int .i64 t286, .slice Ao30 t287.length co30, .int .i64 t290, .int .i64 t291] 51 (0, 0)) (by (with_reducible repeat (first | refine blk_drewN ?_ _ | refine blk_drew ?_ | refine blk_alloc ?_ _)); exact BK292.out))) : P := h
theorem zb13_10 {P : Prop} (h : P := by rw [hg]; exact Nat.ne_of_gt (blk_lt (g := gb292) (o := .cells #[.string t285, .int .i64 t286, .slice Ao30 t287.length co30, .int .i64 t290, .int .i64 t291] 51 (0, 0)) (by (with_reducible repeat (first | refine blk_drewN ?_ _ | refine blk_drew ?_ | refine blk_alloc ?_ _)); exact BK292.out))) : P := h
theorem zb14_10 {P : Prop} (h : P := by (with_reducible repeat (first | apply Kd.R_alloc | apply Kd.R_drewN | apply Kd.R_drew)); exact (Kd.R_mono (Kd.R_far (p := ⟨gb298, 2, none⟩) (Kd.R_far (p := ⟨gb298, 1, none⟩) (Kd.R_far (p := ⟨gb298, 0, none⟩) (Kd.R_types HO297.out BK298.out (by decide)) (fun _ hk => hk.2) (.string t293)) (fun _ hk => hk.2) (.int .i64 t294)) (fun _ hk => hk.2) (.slice Ao37 t295.length co37)) (fun _ h_ => h_.1))) : P := h
theorem zb15_10 {P : Prop} (h : P := by repeat (first | (with_reducible first | exact HB.out | apply below_alloc | apply pw_below_drewN | apply below_drew1 | refine below_set ?_ GE278.out | refine below_set ?_ GE292.out | refine below_set ?_ GE298.out) | exact HB.out)) : P := h
theorem zb16_10 {P : Prop} (h : P := by (with_reducible repeat (first | apply Kd.R_alloc | apply Kd.R_drewN | apply Kd.R_drew)); exact HO303.out) : P := h
theorem zb17_10 {P : Prop} (h : P := by (with_reducible repeat (first | refine blk_drewN ?_ _ | refine blk_drew ?_ | refine blk_alloc ?_ _)); exact BK298.out) : P := h
theorem zb18_10 {P : Prop} (h : P := by repeat (first | (with_reducible first | exact HB.out | apply below_alloc | apply pw_below_drewN | apply below_drew1 | refine below_set ?_ GE278.out | refine below_set ?_ GE292.out | refine below_set ?_ GE298.out | refine below_set ?_ GE306.out) | exact HB.out)) : P := h
theorem zb19_10 {P : Prop} (h : P := by (with_reducible repeat (first | refine blk_drewN ?_ _ | refine blk_drew ?_ | refine blk_alloc ?_ _)); exact BK306.out) : P := h
theorem zb20_10 {P : Prop} (h : P := by (with_reducible repeat (first | apply Kd.R_alloc | apply Kd.R_drewN | apply Kd.R_drew)); exact HO_293002.out) : P := h
theorem zb21_10 {P : Prop} (h : P := by (with_reducible repeat (first | apply Kd.R_alloc | apply Kd.R_drewN | apply Kd.R_drew)); exact HO_299002.out) : P := h
theorem zb22_10 {P : Prop} (h : P := by (with_reducible repeat (first | apply Kd.R_alloc | apply Kd.R_drewN | apply Kd.R_drew)); exact HO_307002.out) : P := h
theorem zb23_10 {P : Prop} (h : P := by (with_reducible repeat (first | apply Kd.R_alloc | apply Kd.R_drewN | apply Kd.R_drew)); exact HO324.out) : P := h
/-! ### laws_FnExactDbVerified: function 8 -/
def laws_FnExactDbVerified.j0 : Nat → Int → Bool → Bool → ByteArray → Int → List (S97) → ByteArray → Int → List (S71) → Int → Int → ByteArray → Int → List (S71) → Int → Int → Option (Bool)
 | 0, _, _, _, _, _, _, _, _, _, _, _, _, _, _, _, _ => none
 | k + 1, x1, x2, x50, x279000, x279001, x279002, x293000, x293001, x293002, x293003, x293004, x307000, x307001, x307002, x307003, x307004 => if x50 = true then (some false) else ((laws_markDialbackOut.f k x307000 x307001 x307002 x307003 x307004 1).bind fun bt317 => ((laws_heldDialbackOut.f k x307000 x307001 bt317.2 x307003 x307004 1).bind fun t319 => (if t319 < 0 then (some false) else (if t319 = bt317.1 then ((laws_toDialback.f k x279000 x279001 x279002).bind fun bt320 => ((impl_DbVerified.f k bt320.1 bt320.2.1 bt320.2.2 x1 x2).bind fun bt325 => ((laws_eqDialbackOut.f k bt325.1 bt325.2.1 bt325.2.2.1 bt325.2.2.2.1 bt325.2.2.2.2 x293000 x293001 x293002 x293003 x293004).bind fun t333 => (if t333 = true then ((laws_heldDialbackOut.f k x307000 x307001 bt317.2 x307003 x307004 1).bind fun t334 => (if t334 < 0 then (some false) else (if t334 = bt317.1 then (some true) else (some false)))) else (some false))))) else (some false)))))
def laws_FnExactDbVerified.f (k : Nat) (a0_0 : ByteArray) (a0_1 : Int) (l0_2 : List (S97)) (a1 : Int) (a2 : Bool) : Option (Bool) := (laws_szDialback.f k a0_0 a0_1 l0_2 1048576).bind fun t279 => (if t279 < 0 then (some true) else ((laws_toDialback.f k a0_0 a0_1 l0_2).bind fun bt280 => ((spec_DbVerified.f k bt280.1 bt280.2.1 bt280.2.2 a1 a2).bind fun bt285 => ((laws_toDialback.f k a0_0 a0_1 l0_2).bind fun bt293 => ((impl_DbVerified.f k bt293.1 bt293.2.1 bt293.2.2 a1 a2).bind fun bt299 => ((laws_eqDialbackOut.f k bt299.1 bt299.2.1 bt299.2.2.1 bt299.2.2.2.1 bt299.2.2.2.2 bt285.1 bt285.2.1 bt285.2.2.1 bt285.2.2.2.1 bt285.2.2.2.2).bind fun t307 => (if t307 = true then ((laws_toDialback.f k a0_0 a0_1 l0_2).bind fun bt308 => ((laws_eqDialback.f k bt293.1 bt293.2.1 bt293.2.2 bt308.1 bt308.2.1 bt308.2.2).bind fun t313 => (if t313 = true then ((laws_markDialback.f k bt293.1 bt293.2.1 bt293.2.2 1).bind fun bt314 => (if bt314.1 < 0 then (laws_FnExactDbVerified.j0 k a1 a2 true a0_0 a0_1 l0_2 bt285.1 bt285.2.1 bt285.2.2.1 bt285.2.2.2.1 bt285.2.2.2.2 bt299.1 bt299.2.1 bt299.2.2.1 bt299.2.2.2.1 bt299.2.2.2.2) else ((laws_eqDialbackOut.f k bt299.1 bt299.2.1 bt299.2.2.1 bt299.2.2.2.1 bt299.2.2.2.2 bt285.1 bt285.2.1 bt285.2.2.1 bt285.2.2.2.1 bt285.2.2.2.2).bind fun t316 => (laws_FnExactDbVerified.j0 k a1 a2 (!t316) a0_0 a0_1 l0_2 bt285.1 bt285.2.1 bt285.2.2.1 bt285.2.2.2.1 bt285.2.2.2.2 bt299.1 bt299.2.1 bt299.2.2.1 bt299.2.2.2.1 bt299.2.2.2.2)))) else (some false)))) else (some false))))))))
theorem laws_FnExactDbVerified.mono_l : ∀ k, (∀ y0 y1 y2 y3 y4 y5 y6 y7 y8 y9 y10 y11 y12 y13 y14 y15, LeO (laws_FnExactDbVerified.j0 k y0 y1 y2 y3 y4 y5 y6 y7 y8 y9 y10 y11 y12 y13 y14 y15) (laws_FnExactDbVerified.j0 (k + 1) y0 y1 y2 y3 y4 y5 y6 y7 y8 y9 y10 y11 y12 y13 y14 y15))
 | 0 => fun _ _ _ _ _ _ _ _ _ _ _ _ _ _ _ _ r h => by simp [laws_FnExactDbVerified.j0] at h
 | k + 1 => by
  have ih0 := laws_FnExactDbVerified.mono_l k
  ·
   intro y0 y1 y2 y3 y4 y5 y6 y7 y8 y9 y10 y11 y12 y13 y14 y15
   unfold laws_FnExactDbVerified.j0
   repeat' first
   | (with_reducible exact ih0 _ _ _ _ _ _ _ _ _ _ _ _ _ _ _ _)
   | (with_reducible exact impl_DbVerified.mono _ _ _ _ _ _)
   | (with_reducible exact laws_eqDialback.mono _ _ _ _ _ _ _)
   | (with_reducible exact laws_eqDialbackOut.mono _ _ _ _ _ _ _ _ _ _ _)
   | (with_reducible exact laws_heldDialbackOut.mono _ _ _ _ _ _ _)
   | (with_reducible exact laws_markDialback.mono _ _ _ _ _)
   | (with_reducible exact laws_markDialbackOut.mono _ _ _ _ _ _ _)
   | (with_reducible exact laws_szDialback.mono _ _ _ _ _)
   | (with_reducible exact laws_toDialback.mono _ _ _ _)
   | (with_reducible exact spec_DbVerified.mono _ _ _ _ _ _)
   | (with_reducible exact LeO.refl _)
   | (with_reducible exact LeO.none _)
   | (with_reducible refine LeO.ite ?_ ?_)
   | (with_reducible refine LeO.bind ?_ (fun _ => ?_))
   | exact ih0 _ _ _ _ _ _ _ _ _ _ _ _ _ _ _ _
   | exact impl_DbVerified.mono _ _ _ _ _ _
   | exact laws_eqDialback.mono _ _ _ _ _ _ _
   | exact laws_eqDialbackOut.mono _ _ _ _ _ _ _ _ _ _ _
   | exact laws_heldDialbackOut.mono _ _ _ _ _ _ _
   | exact laws_markDialback.mono _ _ _ _ _
   | exact laws_markDialbackOut.mono _ _ _ _ _ _ _
   | exact laws_szDialback.mono _ _ _ _ _
   | exact laws_toDialback.mono _ _ _ _
   | exact spec_DbVerified.mono _ _ _ _ _ _
   | exact LeO.none _
   | refine LeO.ite ?_ ?_
   | refine LeO.bind ?_ (fun _ => ?_)
theorem laws_FnExactDbVerified.mono : ∀ a0 a1 a2 a3 a4 k, LeO (laws_FnExactDbVerified.f k a0 a1 a2 a3 a4) (laws_FnExactDbVerified.f (k + 1) a0 a1 a2 a3 a4) := by
 intro a0 a1 a2 a3 a4 k
 have ih0 := laws_FnExactDbVerified.mono_l k
 unfold laws_FnExactDbVerified.f
 repeat' first
   | (with_reducible exact ih0 _ _ _ _ _ _ _ _ _ _ _ _ _ _ _ _)
   | (with_reducible exact impl_DbVerified.mono _ _ _ _ _ _)
   | (with_reducible exact laws_eqDialback.mono _ _ _ _ _ _ _)
   | (with_reducible exact laws_eqDialbackOut.mono _ _ _ _ _ _ _ _ _ _ _)
   | (with_reducible exact laws_heldDialbackOut.mono _ _ _ _ _ _ _)
   | (with_reducible exact laws_markDialback.mono _ _ _ _ _)
   | (with_reducible exact laws_markDialbackOut.mono _ _ _ _ _ _ _)
   | (with_reducible exact laws_szDialback.mono _ _ _ _ _)
   | (with_reducible exact laws_toDialback.mono _ _ _ _)
   | (with_reducible exact spec_DbVerified.mono _ _ _ _ _ _)
   | (with_reducible exact LeO.refl _)
   | (with_reducible exact LeO.none _)
   | (with_reducible refine LeO.ite ?_ ?_)
   | (with_reducible refine LeO.bind ?_ (fun _ => ?_))
   | exact ih0 _ _ _ _ _ _ _ _ _ _ _ _ _ _ _ _
   | exact impl_DbVerified.mono _ _ _ _ _ _
   | exact laws_eqDialback.mono _ _ _ _ _ _ _
   | exact laws_eqDialbackOut.mono _ _ _ _ _ _ _ _ _ _ _
   | exact laws_heldDialbackOut.mono _ _ _ _ _ _ _
   | exact laws_markDialback.mono _ _ _ _ _
   | exact laws_markDialbackOut.mono _ _ _ _ _ _ _
   | exact laws_szDialback.mono _ _ _ _ _
   | exact laws_toDialback.mono _ _ _ _
   | exact spec_DbVerified.mono _ _ _ _ _ _
   | exact LeO.none _
   | refine LeO.ite ?_ ?_
   | refine LeO.bind ?_ (fun _ => ?_)
set_option maxHeartbeats 8000000 in
set_option maxRecDepth 100000 in
theorem laws_FnExactDbVerified.calls (k : Nat) (a0_0 : ByteArray) (a0_1 : Int) (A0_2 : Option Addr) (c0_2 : Nat) (l0_2 : List (S97)) (a1 : Int) (a2 : Bool) (r : Bool) (w : World) (hr0_2 : Kd.C k97 w A0_2 l0_2.length l0_2) (hc0_2 : l0_2.length ≤ c0_2) (h : laws_FnExactDbVerified.f k a0_0 a0_1 l0_2 a1 a2 = some r) (hrt0 : r = true) (hmx : MaxIs w) :
  Calls Tryd.prog 8 #[.agg #[.string a0_0, .int .i64 a0_1, .slice A0_2 l0_2.length c0_2], .int .i64 a1, .bool a2] w fun e w' => e = .returned (.bool r) ∧ Below w.heap.size w w' := by
 have hrt := Aside0.mk hrt0
 clear hrt0
 have hu35 := Tryd.underlying35
 have hu51 := Tryd.underlying51
 have hu40 := Tryd.underlying40
 have HR0_2 := Aside0.mk hr0_2
 have HC0_2 := Aside0.mk hc0_2
 clear hr0_2 hc0_2
 have HB := Aside0.mk (Below.refl w.heap.size w)
 have H : ((laws_szDialback.f k a0_0 a0_1 l0_2 1048576).bind fun t279 => (if t279 < 0 then (some true) else ((laws_toDialback.f k a0_0 a0_1 l0_2).bind fun bt280 => ((spec_DbVerified.f k bt280.1 bt280.2.1 bt280.2.2 a1 a2).bind fun bt285 => ((laws_toDialback.f k a0_0 a0_1 l0_2).bind fun bt293 => ((impl_DbVerified.f k bt293.1 bt293.2.1 bt293.2.2 a1 a2).bind fun bt299 => ((laws_eqDialbackOut.f k bt299.1 bt299.2.1 bt299.2.2.1 bt299.2.2.2.1 bt299.2.2.2.2 bt285.1 bt285.2.1 bt285.2.2.1 bt285.2.2.2.1 bt285.2.2.2.2).bind fun t307 => (if t307 = true then ((laws_toDialback.f k a0_0 a0_1 l0_2).bind fun bt308 => ((laws_eqDialback.f k bt293.1 bt293.2.1 bt293.2.2 bt308.1 bt308.2.1 bt308.2.2).bind fun t313 => (if t313 = true then ((laws_markDialback.f k bt293.1 bt293.2.1 bt293.2.2 1).bind fun bt314 => (if bt314.1 < 0 then (laws_FnExactDbVerified.j0 k a1 a2 true a0_0 a0_1 l0_2 bt285.1 bt285.2.1 bt285.2.2.1 bt285.2.2.2.1 bt285.2.2.2.2 bt299.1 bt299.2.1 bt299.2.2.1 bt299.2.2.2.1 bt299.2.2.2.2) else ((laws_eqDialbackOut.f k bt299.1 bt299.2.1 bt299.2.2.1 bt299.2.2.2.1 bt299.2.2.2.2 bt285.1 bt285.2.1 bt285.2.2.1 bt285.2.2.2.1 bt285.2.2.2.2).bind fun t316 => (laws_FnExactDbVerified.j0 k a1 a2 (!t316) a0_0 a0_1 l0_2 bt285.1 bt285.2.1 bt285.2.2.1 bt285.2.2.2.1 bt285.2.2.2.2 bt299.1 bt299.2.1 bt299.2.2.1 bt299.2.2.2.1 bt299.2.2.2.2)))) else (some false)))) else (some false))))))))) = some r := h
 clear h
 replace H := Option.bind_eq_some_iff.mp H
 obtain ⟨t279, A40, H⟩ := H
 replace H : (if t279 < 0 then (some true) else ((laws_toDialback.f k a0_0 a0_1 l0_2).bind fun bt280 => ((spec_DbVerified.f k bt280.1 bt280.2.1 bt280.2.2 a1 a2).bind fun bt285 => ((laws_toDialback.f k a0_0 a0_1 l0_2).bind fun bt293 => ((impl_DbVerified.f k bt293.1 bt293.2.1 bt293.2.2 a1 a2).bind fun bt299 => ((laws_eqDialbackOut.f k bt299.1 bt299.2.1 bt299.2.2.1 bt299.2.2.2.1 bt299.2.2.2.2 bt285.1 bt285.2.1 bt285.2.2.1 bt285.2.2.2.1 bt285.2.2.2.2).bind fun t307 => (if t307 = true then ((laws_toDialback.f k a0_0 a0_1 l0_2).bind fun bt308 => ((laws_eqDialback.f k bt293.1 bt293.2.1 bt293.2.2 bt308.1 bt308.2.1 bt308.2.2).bind fun t313 => (if t313 = true then ((laws_markDialback.f k bt293.1 bt293.2.1 bt293.2.2 1).bind fun bt314 => (if bt314.1 < 0 then (laws_FnExactDbVerified.j0 k a1 a2 true a0_0 a0_1 l0_2 bt285.1 bt285.2.1 bt285.2.2.1 bt285.2.2.2.1 bt285.2.2.2.2 bt299.1 bt299.2.1 bt299.2.2.1 bt299.2.2.2.1 bt299.2.2.2.2) else ((laws_eqDialbackOut.f k bt299.1 bt299.2.1 bt299.2.2.1 bt299.2.2.2.1 bt299.2.2.2.2 bt285.1 bt285.2.1 bt285.2.2.1 bt285.2.2.2.1 bt285.2.2.2.2).bind fun t316 => (laws_FnExactDbVerified.j0 k a1 a2 (!t316) a0_0 a0_1 l0_2 bt285.1 bt285.2.1 bt285.2.2.1 bt285.2.2.2.1 bt285.2.2.2.2 bt299.1 bt299.2.1 bt299.2.2.1 bt299.2.2.2.1 bt299.2.2.2.2)))) else (some false)))) else (some false)))))))) = some r := H
 have A4 := Aside0.mk A40
 clear A40
 by_cases c5 : t279 < 0
 ·
  rw [if_pos c5] at H
  have c5b0 : decide (t279 < 0) = true := decide_eq_true c5
  clear c5
  obtain rfl := Option.some.inj H
  go_enter Tryd.func8, Tryd.ntmps8
  go_wp2_with (first | ((with_reducible refine gate_dst (N := 3) rfl ?_); refine box_event ?hg (N := 3) ?hd (cs := #[.string a0_0, .int .i64 a0_1, .slice A0_2 l0_2.length c0_2]) (t := 35) ?hr ?_; (case hd => rfl); (case hg => rfl); (case hr => first | (go_simp; done) | (go_simp; rfl)); intro gb278 hg w6 hbox hb; have n0_ := Aside0.mk (below_step zb0_10 hb); have n1_ := Aside0.mk (hbox); have n2_ := Aside0.mk ((zb1_10 : w.heap.size ≤ gb278)); have n3_ := Aside0.mk ((zb1_10 : w.heap.size ≤ gb278)); clear HB; have HB := n0_; have BK278 := n1_; have GW278 := n2_; have GE278 := n3_; clear n0_ n1_ n2_ n3_; clear hb hbox hg; have hcz7_0 : w6.cell? ⟨gb278, 0, none⟩ = some (.string a0_0) := (blk_cell BK278.out 0).trans rfl; have hcz7_1 : w6.cell? ⟨gb278, 1, none⟩ = some (.int .i64 a0_1) := (blk_cell BK278.out 1).trans rfl; have hcz7_2 : w6.cell? ⟨gb278, 2, none⟩ = some (.slice A0_2 l0_2.length c0_2) := (blk_cell BK278.out 2).trans rfl; have hfz7_0 := blk_frozen BK278.out 0; have hfz7_1 := blk_frozen BK278.out 1; have hfz7_2 := blk_frozen BK278.out 2) | ((with_reducible refine gate_callee (f := 15) rfl ?_); refine goesL_ (some 17) rfl rfl Tryd.func15 (by kernel_rfl) rfl #[.agg #[.string a0_0, .int .i64 a0_1, .slice A0_2 l0_2.length c0_2], .int .i64 1048576] rfl zb2_10 ?_; (with_reducible refine (laws_szDialback.calls k a0_0 a0_1 _ _ l0_2 1048576 t279 _ ?side1 ?side2 A4.out).mono ?_); (case side1 => repeat (first | exact (Kd.C_below HR0_2.out HB.out) | (with_reducible refine Kd.C_alloc ?_ _) | (with_reducible refine Kd.C_drewN ?_ _) | (with_reducible refine Kd.C_drew ?_))); (case side2 => exact HC0_2.out); rintro e w8 ⟨rfl, hb⟩; refine ⟨_, rfl, ?_⟩; have n0_ := Aside0.mk (blk_below (g := gb278) (o := .cells #[.string a0_0, .int .i64 a0_1, .slice A0_2 l0_2.length c0_2] 35 (0, 0)) zb3_10 hb); have n1_ := Aside0.mk (below_step zb4_10 hb); clear BK278; clear HB; have BK278 := n0_; have HB := n1_; clear n0_ n1_; (try clear hb); (try clear hb2); (try clear hk); (try clear hi)))
  go_ret
  exact ⟨by first | rfl | (simp [errW_none, errW_some] <;> rfl) | (simp [*, errW_none, errW_some] <;> rfl), by repeat (first | (with_reducible first | exact HB.out | apply below_alloc | apply pw_below_drewN | apply below_drew1 | refine below_set ?_ GE278.out) | exact HB.out)⟩
 ·
  rw [if_neg c5] at H
  have c5b0 : decide (t279 < 0) = false := decide_eq_false c5
  clear c5
  replace H := Option.bind_eq_some_iff.mp H
  obtain ⟨⟨t280, t281, t282⟩, A90, H⟩ := H
  replace H : ((spec_DbVerified.f k t280 t281 t282 a1 a2).bind fun bt285 => ((laws_toDialback.f k a0_0 a0_1 l0_2).bind fun bt293 => ((impl_DbVerified.f k bt293.1 bt293.2.1 bt293.2.2 a1 a2).bind fun bt299 => ((laws_eqDialbackOut.f k bt299.1 bt299.2.1 bt299.2.2.1 bt299.2.2.2.1 bt299.2.2.2.2 bt285.1 bt285.2.1 bt285.2.2.1 bt285.2.2.2.1 bt285.2.2.2.2).bind fun t307 => (if t307 = true then ((laws_toDialback.f k a0_0 a0_1 l0_2).bind fun bt308 => ((laws_eqDialback.f k bt293.1 bt293.2.1 bt293.2.2 bt308.1 bt308.2.1 bt308.2.2).bind fun t313 => (if t313 = true then ((laws_markDialback.f k bt293.1 bt293.2.1 bt293.2.2 1).bind fun bt314 => (if bt314.1 < 0 then (laws_FnExactDbVerified.j0 k a1 a2 true a0_0 a0_1 l0_2 bt285.1 bt285.2.1 bt285.2.2.1 bt285.2.2.2.1 bt285.2.2.2.2 bt299.1 bt299.2.1 bt299.2.2.1 bt299.2.2.2.1 bt299.2.2.2.2) else ((laws_eqDialbackOut.f k bt299.1 bt299.2.1 bt299.2.2.1 bt299.2.2.2.1 bt299.2.2.2.2 bt285.1 bt285.2.1 bt285.2.2.1 bt285.2.2.2.1 bt285.2.2.2.2).bind fun t316 => (laws_FnExactDbVerified.j0 k a1 a2 (!t316) a0_0 a0_1 l0_2 bt285.1 bt285.2.1 bt285.2.2.1 bt285.2.2.2.1 bt285.2.2.2.2 bt299.1 bt299.2.1 bt299.2.2.1 bt299.2.2.2.1 bt299.2.2.2.2)))) else (some false)))) else (some false)))))) = some r := H
  have A9 := Aside0.mk A90
  clear A90
  replace H := Option.bind_eq_some_iff.mp H
  obtain ⟨⟨t285, t286, t287, t290, t291⟩, A100, H⟩ := H
  replace H : ((laws_toDialback.f k a0_0 a0_1 l0_2).bind fun bt293 => ((impl_DbVerified.f k bt293.1 bt293.2.1 bt293.2.2 a1 a2).bind fun bt299 => ((laws_eqDialbackOut.f k bt299.1 bt299.2.1 bt299.2.2.1 bt299.2.2.2.1 bt299.2.2.2.2 t285 t286 t287 t290 t291).bind fun t307 => (if t307 = true then ((laws_toDialback.f k a0_0 a0_1 l0_2).bind fun bt308 => ((laws_eqDialback.f k bt293.1 bt293.2.1 bt293.2.2 bt308.1 bt308.2.1 bt308.2.2).bind fun t313 => (if t313 = true then ((laws_markDialback.f k bt293.1 bt293.2.1 bt293.2.2 1).bind fun bt314 => (if bt314.1 < 0 then (laws_FnExactDbVerified.j0 k a1 a2 true a0_0 a0_1 l0_2 t285 t286 t287 t290 t291 bt299.1 bt299.2.1 bt299.2.2.1 bt299.2.2.2.1 bt299.2.2.2.2) else ((laws_eqDialbackOut.f k bt299.1 bt299.2.1 bt299.2.2.1 bt299.2.2.2.1 bt299.2.2.2.2 t285 t286 t287 t290 t291).bind fun t316 => (laws_FnExactDbVerified.j0 k a1 a2 (!t316) a0_0 a0_1 l0_2 t285 t286 t287 t290 t291 bt299.1 bt299.2.1 bt299.2.2.1 bt299.2.2.2.1 bt299.2.2.2.2)))) else (some false)))) else (some false))))) = some r := H
  have A10 := Aside0.mk A100
  clear A100
  replace H := Option.bind_eq_some_iff.mp H
  obtain ⟨⟨t293, t294, t295⟩, A110, H⟩ := H
  replace H : ((impl_DbVerified.f k t293 t294 t295 a1 a2).bind fun bt299 => ((laws_eqDialbackOut.f k bt299.1 bt299.2.1 bt299.2.2.1 bt299.2.2.2.1 bt299.2.2.2.2 t285 t286 t287 t290 t291).bind fun t307 => (if t307 = true then ((laws_toDialback.f k a0_0 a0_1 l0_2).bind fun bt308 => ((laws_eqDialback.f k t293 t294 t295 bt308.1 bt308.2.1 bt308.2.2).bind fun t313 => (if t313 = true then ((laws_markDialback.f k t293 t294 t295 1).bind fun bt314 => (if bt314.1 < 0 then (laws_FnExactDbVerified.j0 k a1 a2 true a0_0 a0_1 l0_2 t285 t286 t287 t290 t291 bt299.1 bt299.2.1 bt299.2.2.1 bt299.2.2.2.1 bt299.2.2.2.2) else ((laws_eqDialbackOut.f k bt299.1 bt299.2.1 bt299.2.2.1 bt299.2.2.2.1 bt299.2.2.2.2 t285 t286 t287 t290 t291).bind fun t316 => (laws_FnExactDbVerified.j0 k a1 a2 (!t316) a0_0 a0_1 l0_2 t285 t286 t287 t290 t291 bt299.1 bt299.2.1 bt299.2.2.1 bt299.2.2.2.1 bt299.2.2.2.2)))) else (some false)))) else (some false)))) = some r := H
  have A11 := Aside0.mk A110
  clear A110
  replace H := Option.bind_eq_some_iff.mp H
  obtain ⟨⟨t299, t300, t301, t304, t305⟩, A120, H⟩ := H
  replace H : ((laws_eqDialbackOut.f k t299 t300 t301 t304 t305 t285 t286 t287 t290 t291).bind fun t307 => (if t307 = true then ((laws_toDialback.f k a0_0 a0_1 l0_2).bind fun bt308 => ((laws_eqDialback.f k t293 t294 t295 bt308.1 bt308.2.1 bt308.2.2).bind fun t313 => (if t313 = true then ((laws_markDialback.f k t293 t294 t295 1).bind fun bt314 => (if bt314.1 < 0 then (laws_FnExactDbVerified.j0 k a1 a2 true a0_0 a0_1 l0_2 t285 t286 t287 t290 t291 t299 t300 t301 t304 t305) else ((laws_eqDialbackOut.f k t299 t300 t301 t304 t305 t285 t286 t287 t290 t291).bind fun t316 => (laws_FnExactDbVerified.j0 k a1 a2 (!t316) a0_0 a0_1 l0_2 t285 t286 t287 t290 t291 t299 t300 t301 t304 t305)))) else (some false)))) else (some false))) = some r := H
  have A12 := Aside0.mk A120
  clear A120
  replace H := Option.bind_eq_some_iff.mp H
  obtain ⟨t307, A130, H⟩ := H
  replace H : (if t307 = true then ((laws_toDialback.f k a0_0 a0_1 l0_2).bind fun bt308 => ((laws_eqDialback.f k t293 t294 t295 bt308.1 bt308.2.1 bt308.2.2).bind fun t313 => (if t313 = true then ((laws_markDialback.f k t293 t294 t295 1).bind fun bt314 => (if bt314.1 < 0 then (laws_FnExactDbVerified.j0 k a1 a2 true a0_0 a0_1 l0_2 t285 t286 t287 t290 t291 t299 t300 t301 t304 t305) else ((laws_eqDialbackOut.f k t299 t300 t301 t304 t305 t285 t286 t287 t290 t291).bind fun t316 => (laws_FnExactDbVerified.j0 k a1 a2 (!t316) a0_0 a0_1 l0_2 t285 t286 t287 t290 t291 t299 t300 t301 t304 t305)))) else (some false)))) else (some false)) = some r := H
  have A13 := Aside0.mk A130
  clear A130
  by_cases c14 : t307 = true
  ·
   subst c14
   have H1 : ((laws_toDialback.f k a0_0 a0_1 l0_2).bind fun bt308 => ((laws_eqDialback.f k t293 t294 t295 bt308.1 bt308.2.1 bt308.2.2).bind fun t313 => (if t313 = true then ((laws_markDialback.f k t293 t294 t295 1).bind fun bt314 => (if bt314.1 < 0 then (laws_FnExactDbVerified.j0 k a1 a2 true a0_0 a0_1 l0_2 t285 t286 t287 t290 t291 t299 t300 t301 t304 t305) else ((laws_eqDialbackOut.f k t299 t300 t301 t304 t305 t285 t286 t287 t290 t291).bind fun t316 => (laws_FnExactDbVerified.j0 k a1 a2 (!t316) a0_0 a0_1 l0_2 t285 t286 t287 t290 t291 t299 t300 t301 t304 t305)))) else (some false)))) = some r := by rw [if_pos rfl] at H; exact H
   clear H
   have H := H1
   clear H1
   replace H := Option.bind_eq_some_iff.mp H
   obtain ⟨⟨t308, t309, t310⟩, A150, H⟩ := H
   replace H : ((laws_eqDialback.f k t293 t294 t295 t308 t309 t310).bind fun t313 => (if t313 = true then ((laws_markDialback.f k t293 t294 t295 1).bind fun bt314 => (if bt314.1 < 0 then (laws_FnExactDbVerified.j0 k a1 a2 true a0_0 a0_1 l0_2 t285 t286 t287 t290 t291 t299 t300 t301 t304 t305) else ((laws_eqDialbackOut.f k t299 t300 t301 t304 t305 t285 t286 t287 t290 t291).bind fun t316 => (laws_FnExactDbVerified.j0 k a1 a2 (!t316) a0_0 a0_1 l0_2 t285 t286 t287 t290 t291 t299 t300 t301 t304 t305)))) else (some false))) = some r := H
   have A15 := Aside0.mk A150
   clear A150
   replace H := Option.bind_eq_some_iff.mp H
   obtain ⟨t313, A160, H⟩ := H
   replace H : (if t313 = true then ((laws_markDialback.f k t293 t294 t295 1).bind fun bt314 => (if bt314.1 < 0 then (laws_FnExactDbVerified.j0 k a1 a2 true a0_0 a0_1 l0_2 t285 t286 t287 t290 t291 t299 t300 t301 t304 t305) else ((laws_eqDialbackOut.f k t299 t300 t301 t304 t305 t285 t286 t287 t290 t291).bind fun t316 => (laws_FnExactDbVerified.j0 k a1 a2 (!t316) a0_0 a0_1 l0_2 t285 t286 t287 t290 t291 t299 t300 t301 t304 t305)))) else (some false)) = some r := H
   have A16 := Aside0.mk A160
   clear A160
   by_cases c17 : t313 = true
   ·
    subst c17
    have H1 : ((laws_markDialback.f k t293 t294 t295 1).bind fun bt314 => (if bt314.1 < 0 then (laws_FnExactDbVerified.j0 k a1 a2 true a0_0 a0_1 l0_2 t285 t286 t287 t290 t291 t299 t300 t301 t304 t305) else ((laws_eqDialbackOut.f k t299 t300 t301 t304 t305 t285 t286 t287 t290 t291).bind fun t316 => (laws_FnExactDbVerified.j0 k a1 a2 (!t316) a0_0 a0_1 l0_2 t285 t286 t287 t290 t291 t299 t300 t301 t304 t305)))) = some r := by rw [if_pos rfl] at H; exact H
    clear H
    have H := H1
    clear H1
    replace H := Option.bind_eq_some_iff.mp H
    obtain ⟨⟨t314, t315⟩, A180, H⟩ := H
    replace H : (if t314 < 0 then (laws_FnExactDbVerified.j0 k a1 a2 true a0_0 a0_1 l0_2 t285 t286 t287 t290 t291 t299 t300 t301 t304 t305) else ((laws_eqDialbackOut.f k t299 t300 t301 t304 t305 t285 t286 t287 t290 t291).bind fun t316 => (laws_FnExactDbVerified.j0 k a1 a2 (!t316) a0_0 a0_1 l0_2 t285 t286 t287 t290 t291 t299 t300 t301 t304 t305))) = some r := H
    have A18 := Aside0.mk A180
    clear A180
    have HC19 := Aside0.mk H
    clear H
    go_enter Tryd.func8, Tryd.ntmps8
    try go_wp2_with (first | ((with_reducible refine gate_dst (N := 3) rfl ?_); refine box_event ?hg (N := 3) ?hd (cs := #[.string a0_0, .int .i64 a0_1, .slice A0_2 l0_2.length c0_2]) (t := 35) ?hr ?_; (case hd => rfl); (case hg => rfl); (case hr => first | (go_simp; done) | (go_simp; rfl)); intro gb278 hg w20 hbox hb; have n0_ := Aside0.mk (below_step zb0_10 hb); have n1_ := Aside0.mk (hbox); have n2_ := Aside0.mk ((zb1_10 : w.heap.size ≤ gb278)); have n3_ := Aside0.mk ((zb1_10 : w.heap.size ≤ gb278)); clear HB; have HB := n0_; have BK278 := n1_; have GW278 := n2_; have GE278 := n3_; clear n0_ n1_ n2_ n3_; clear hb hbox hg; have hcz21_0 : w20.cell? ⟨gb278, 0, none⟩ = some (.string a0_0) := (blk_cell BK278.out 0).trans rfl; have hcz21_1 : w20.cell? ⟨gb278, 1, none⟩ = some (.int .i64 a0_1) := (blk_cell BK278.out 1).trans rfl; have hcz21_2 : w20.cell? ⟨gb278, 2, none⟩ = some (.slice A0_2 l0_2.length c0_2) := (blk_cell BK278.out 2).trans rfl; have hfz21_0 := blk_frozen BK278.out 0; have hfz21_1 := blk_frozen BK278.out 1; have hfz21_2 := blk_frozen BK278.out 2) | ((with_reducible refine gate_callee (f := 15) rfl ?_); refine goesL_ (some 17) rfl rfl Tryd.func15 (by kernel_rfl) rfl #[.agg #[.string a0_0, .int .i64 a0_1, .slice A0_2 l0_2.length c0_2], .int .i64 1048576] rfl zb2_10 ?_; (with_reducible refine (laws_szDialback.calls k a0_0 a0_1 _ _ l0_2 1048576 t279 _ ?side1 ?side2 A4.out).mono ?_); (case side1 => repeat (first | exact (Kd.C_below HR0_2.out HB.out) | (with_reducible refine Kd.C_alloc ?_ _) | (with_reducible refine Kd.C_drewN ?_ _) | (with_reducible refine Kd.C_drew ?_))); (case side2 => exact HC0_2.out); rintro e w22 ⟨rfl, hb⟩; refine ⟨_, rfl, ?_⟩; have n0_ := Aside0.mk (blk_below (g := gb278) (o := .cells #[.string a0_0, .int .i64 a0_1, .slice A0_2 l0_2.length c0_2] 35 (0, 0)) zb3_10 hb); have n1_ := Aside0.mk (below_step zb4_10 hb); clear BK278; clear HB; have BK278 := n0_; have HB := n1_; clear n0_ n1_; (try clear hb); (try clear hb2); (try clear hk); (try clear hi); have hcz23_0 : w22.cell? ⟨gb278, 0, none⟩ = some (.string a0_0) := (blk_cell BK278.out 0).trans rfl; have hcz23_1 : w22.cell? ⟨gb278, 1, none⟩ = some (.int .i64 a0_1) := (blk_cell BK278.out 1).trans rfl; have hcz23_2 : w22.cell? ⟨gb278, 2, none⟩ = some (.slice A0_2 l0_2.length c0_2) := (blk_cell BK278.out 2).trans rfl; have hfz23_0 := blk_frozen BK278.out 0; have hfz23_1 := blk_frozen BK278.out 1; have hfz23_2 := blk_frozen BK278.out 2) | ((with_reducible refine gate_callee (f := 17) rfl ?_); refine goesL_ (some 21) rfl rfl Tryd.func17 (by kernel_rfl) rfl #[.agg #[.string a0_0, .int .i64 a0_1, .slice A0_2 l0_2.length c0_2]] rfl zb2_10 ?_; (with_reducible refine (laws_toDialback.calls k a0_0 a0_1 _ _ l0_2 t280 t281 t282 _ ?side1 ?side2 A9.out).mono ?_); (case side1 => repeat (first | exact (Kd.C_below HR0_2.out HB.out) | (with_reducible refine Kd.C_alloc ?_ _) | (with_reducible refine Kd.C_drewN ?_ _) | (with_reducible refine Kd.C_drew ?_))); (case side2 => exact HC0_2.out); rintro e w24 ⟨v283, rfl, ho0, hb⟩; refine ⟨_, rfl, ?_⟩; have n0_ := Aside0.mk (Kd.R_lower ho0 (below_size zb4_10)); have n1_ := Aside0.mk (blk_below (g := gb278) (o := .cells #[.string a0_0, .int .i64 a0_1, .slice A0_2 l0_2.length c0_2] 35 (0, 0)) zb3_10 hb); have n2_ := Aside0.mk (below_step zb4_10 hb); clear BK278; clear HB; have HO284 := n0_; have BK278 := n1_; have HB := n2_; clear n0_ n1_ n2_; (try clear hb); (try clear hb2); (try clear hk); (try clear hi); (try clear ho0); obtain ⟨Ao25, co25, eo25⟩ := Kd.R_slice HO284.out; subst eo25) | ((with_reducible refine gate_callee (f := 32) rfl ?_); refine goesL_ (some 24) rfl rfl Tryd.func32 (by kernel_rfl) rfl #[.agg #[.string t280, .int .i64 t281, .slice Ao25 t282.length co25], .int .i64 a1, .bool a2] rfl zb2_10 ?_; (with_reducible refine (spec_DbVerified.calls k t280 t281 _ _ t282 a1 a2 t285 t286 t287 t290 t291 _ ?side1 ?side2 A10.out).mono ?_); (case side1 => repeat (first | exact (Kd.R_reads' HO284.out).2.2 | (with_reducible refine Kd.C_alloc ?_ _) | (with_reducible refine Kd.C_drewN ?_ _) | (with_reducible refine Kd.C_drew ?_))); (case side2 => exact (Kd.R_reads' HO284.out).2.1); rintro e w26 ⟨v288, rfl, ho0, hb⟩; refine ⟨_, rfl, ?_⟩; have n0_ := Aside0.mk (Kd.R_elder' zb5_10 (Kd.R_base ho0) hb); have n1_ := Aside0.mk (Kd.R_lower (Kd.R_new' ho0 (Kd.R_lt zb5_10)) (below_size zb4_10)); have n2_ := Aside0.mk (blk_below (g := gb278) (o := .cells #[.string a0_0, .int .i64 a0_1, .slice A0_2 l0_2.length c0_2] 35 (0, 0)) zb3_10 hb); have n3_ := Aside0.mk (below_step zb4_10 hb); clear HO284; clear BK278; clear HB; have HO284 := n0_; have HO289 := n1_; have BK278 := n2_; have HB := n3_; clear n0_ n1_ n2_ n3_; (try clear hb); (try clear hb2); (try clear hk); (try clear hi); (try clear ho0)) | ((with_reducible refine gate_dst (N := 8) rfl ?_); refine box_event ?hg (N := 8) ?hd (cs := #[.string (⟨#[]⟩ : ByteArray), .int .i64 0, .slice none 0 0, .int .i64 0, .int .i64 0]) (t := 51) ?hr ?_; (case hd => rfl); (case hg => rfl); (case hr => first | (go_simp; done) | (go_simp; rfl)); intro gb292 hg w27 hbox hb; have n0_ := Aside0.mk (Kd.R_below zb5_10 hb); have n1_ := Aside0.mk (Kd.R_below zb6_10 hb); have n2_ := Aside0.mk (blk_below (g := gb278) (o := .cells #[.string a0_0, .int .i64 a0_1, .slice A0_2 l0_2.length c0_2] 35 (0, 0)) zb3_10 hb); have n3_ := Aside0.mk (below_step zb4_10 hb); have n4_ := Aside0.mk (hbox); have n5_ := Aside0.mk ((by rw [hg]; exact (below_size zb4_10) : w.heap.size ≤ gb292)); have n6_ := Aside0.mk ((by rw [hg]; exact (below_size zb4_10) : w.heap.size ≤ gb292)); have n7_ := Aside0.mk ((zb7_10 : gb278 ≠ gb292)); have n8_ := Aside0.mk ((zb8_10 : gb292 ≠ gb278)); clear HO284; clear HO289; clear BK278; clear HB; have HO284 := n0_; have HO289 := n1_; have BK278 := n2_; have HB := n3_; have BK292 := n4_; have GW292 := n5_; have GE292 := n6_; have NB278_292 := n7_; have NB292_278 := n8_; clear n0_ n1_ n2_ n3_ n4_ n5_ n6_ n7_ n8_; clear hb hbox hg; have hnb28 := NB292_278.out; have hnc28 := NB278_292.out; have hcz29_0 : w27.cell? ⟨gb292, 0, none⟩ = some (.string (⟨#[]⟩ : ByteArray)) := (blk_cell BK292.out 0).trans rfl; have hcz29_1 : w27.cell? ⟨gb292, 1, none⟩ = some (.int .i64 0) := (blk_cell BK292.out 1).trans rfl; have hcz29_2 : w27.cell? ⟨gb292, 2, none⟩ = some (.slice none 0 0) := (blk_cell BK292.out 2).trans rfl; have hcz29_3 : w27.cell? ⟨gb292, 3, none⟩ = some (.int .i64 0) := (blk_cell BK292.out 3).trans rfl; have hcz29_4 : w27.cell? ⟨gb292, 4, none⟩ = some (.int .i64 0) := (blk_cell BK292.out 4).trans rfl; have hfz29_0 := blk_frozen BK292.out 0; have hfz29_1 := blk_frozen BK292.out 1; have hfz29_2 := blk_frozen BK292.out 2; have hfz29_3 := blk_frozen BK292.out 3; have hfz29_4 := blk_frozen BK292.out 4; obtain ⟨Ao30, co30, eo30⟩ := Kd.R_slice HO289.out; subst eo30; have hcz31_0 : w27.cell? ⟨gb278, 0, none⟩ = some (.string a0_0) := (blk_cell BK278.out 0).trans rfl; have hcz31_1 : w27.cell? ⟨gb278, 1, none⟩ = some (.int .i64 a0_1) := (blk_cell BK278.out 1).trans rfl; have hcz31_2 : w27.cell? ⟨gb278, 2, none⟩ = some (.slice A0_2 l0_2.length c0_2) := (blk_cell BK278.out 2).trans rfl; have hfz31_0 := blk_frozen BK278.out 0; have hfz31_1 := blk_frozen BK278.out 1; have hfz31_2 := blk_frozen BK278.out 2) | ((with_reducible refine gate_callee (f := 17) rfl ?_); refine goesL_ (some 26) rfl rfl Tryd.func17 (by kernel_rfl) rfl #[.agg #[.string a0_0, .int .i64 a0_1, .slice A0_2 l0_2.length c0_2]] rfl zb2_10 ?_; (with_reducible refine (laws_toDialback.calls k a0_0 a0_1 _ _ l0_2 t293 t294 t295 _ ?side1 ?side2 A11.out).mono ?_); (case side1 => exact Kd.C_below HR0_2.out zb9_10); (case side2 => exact HC0_2.out); rintro e w32 ⟨v296, rfl, ho0, hb⟩; refine ⟨_, rfl, ?_⟩; have n0_ := Aside0.mk (Kd.R_elder' (by (with_reducible repeat (first | apply Kd.R_alloc | apply Kd.R_drewN | apply Kd.R_drew)); exact (Kd.R_mono (Kd.R_far (p := ⟨gb292, 4, none⟩) (Kd.R_far (p := ⟨gb292, 3, none⟩) (Kd.R_far (p := ⟨gb292, 2, none⟩) (Kd.R_far (p := ⟨gb292, 1, none⟩) (Kd.R_far (p := ⟨gb292, 0, none⟩) (Kd.R_types HO284.out BK292.out (by decide)) (fun _ hk => hk.2) (.string t285)) (fun _ hk => hk.2) (.int .i64 t286)) (fun _ hk => hk.2) (.slice Ao30 t287.length co30)) (fun _ hk => hk.2) (.int .i64 t290)) (fun _ hk => hk.2) (.int .i64 t291)) (fun _ h_ => h_.1))) (Kd.R_base ho0) hb); have n1_ := Aside0.mk (Kd.R_elder' (by (with_reducible repeat (first | apply Kd.R_alloc | apply Kd.R_drewN | apply Kd.R_drew)); exact (Kd.R_mono (Kd.R_far (p := ⟨gb292, 4, none⟩) (Kd.R_far (p := ⟨gb292, 3, none⟩) (Kd.R_far (p := ⟨gb292, 2, none⟩) (Kd.R_far (p := ⟨gb292, 1, none⟩) (Kd.R_far (p := ⟨gb292, 0, none⟩) (Kd.R_types HO289.out BK292.out (by decide)) (fun _ hk => hk.2) (.string t285)) (fun _ hk => hk.2) (.int .i64 t286)) (fun _ hk => hk.2) (.slice Ao30 t287.length co30)) (fun _ hk => hk.2) (.int .i64 t290)) (fun _ hk => hk.2) (.int .i64 t291)) (fun _ h_ => h_.1))) (Kd.R_base ho0) hb); have n2_ := Aside0.mk (Kd.R_lower (Kd.R_new' (Kd.R_new' ho0 (Kd.R_lt (by (with_reducible repeat (first | apply Kd.R_alloc | apply Kd.R_drewN | apply Kd.R_drew)); exact (Kd.R_mono (Kd.R_far (p := ⟨gb292, 4, none⟩) (Kd.R_far (p := ⟨gb292, 3, none⟩) (Kd.R_far (p := ⟨gb292, 2, none⟩) (Kd.R_far (p := ⟨gb292, 1, none⟩) (Kd.R_far (p := ⟨gb292, 0, none⟩) (Kd.R_types HO284.out BK292.out (by decide)) (fun _ hk => hk.2) (.string t285)) (fun _ hk => hk.2) (.int .i64 t286)) (fun _ hk => hk.2) (.slice Ao30 t287.length co30)) (fun _ hk => hk.2) (.int .i64 t290)) (fun _ hk => hk.2) (.int .i64 t291)) (fun _ h_ => h_.1))))) (Kd.R_lt (by (with_reducible repeat (first | apply Kd.R_alloc | apply Kd.R_drewN | apply Kd.R_drew)); exact (Kd.R_mono (Kd.R_far (p := ⟨gb292, 4, none⟩) (Kd.R_far (p := ⟨gb292, 3, none⟩) (Kd.R_far (p := ⟨gb292, 2, none⟩) (Kd.R_far (p := ⟨gb292, 1, none⟩) (Kd.R_far (p := ⟨gb292, 0, none⟩) (Kd.R_types HO289.out BK292.out (by decide)) (fun _ hk => hk.2) (.string t285)) (fun _ hk => hk.2) (.int .i64 t286)) (fun _ hk => hk.2) (.slice Ao30 t287.length co30)) (fun _ hk => hk.2) (.int .i64 t290)) (fun _ hk => hk.2) (.int .i64 t291)) (fun _ h_ => h_.1))))) (below_size zb9_10)); have n3_ := Aside0.mk (blk_below (g := gb278) (o := .cells #[.string a0_0, .int .i64 a0_1, .slice A0_2 l0_2.length c0_2] 35 (0, 0)) (by (with_reducible repeat (first | refine blk_drewN ?_ _ | refine blk_drew ?_ | refine blk_alloc ?_ _)); refine blk_far ?_ NB278_292.out _; (with_reducible repeat (first | refine blk_drewN ?_ _ | refine blk_drew ?_ | refine blk_alloc ?_ _)); refine blk_far ?_ NB278_292.out _; (with_reducible repeat (first | refine blk_drewN ?_ _ | refine blk_drew ?_ | refine blk_alloc ?_ _)); refine blk_far ?_ NB278_292.out _; (with_reducible repeat (first | refine blk_drewN ?_ _ | refine blk_drew ?_ | refine blk_alloc ?_ _)); refine blk_far ?_ NB278_292.out _; (with_reducible repeat (first | refine blk_drewN ?_ _ | refine blk_drew ?_ | refine blk_alloc ?_ _)); refine blk_far ?_ NB278_292.out _; (with_reducible repeat (first | refine blk_drewN ?_ _ | refine blk_drew ?_ | refine blk_alloc ?_ _)); exact BK278.out) hb); have n4_ := Aside0.mk (blk_below (g := gb292) (o := .cells #[.string t285, .int .i64 t286, .slice Ao30 t287.length co30, .int .i64 t290, .int .i64 t291] 51 (0, 0)) (by (with_reducible repeat (first | refine blk_drewN ?_ _ | refine blk_drew ?_ | refine blk_alloc ?_ _)); refine blk_put (cs := #[.string t285, .int .i64 t286, .slice Ao30 t287.length co30, .int .i64 t290, .int .i64 0]) ?_ 4 _ rfl; (with_reducible repeat (first | refine blk_drewN ?_ _ | refine blk_drew ?_ | refine blk_alloc ?_ _)); refine blk_put (cs := #[.string t285, .int .i64 t286, .slice Ao30 t287.length co30, .int .i64 0, .int .i64 0]) ?_ 3 _ rfl; (with_reducible repeat (first | refine blk_drewN ?_ _ | refine blk_drew ?_ | refine blk_alloc ?_ _)); refine blk_put (cs := #[.string t285, .int .i64 t286, .slice none 0 0, .int .i64 0, .int .i64 0]) ?_ 2 _ rfl; (with_reducible repeat (first | refine blk_drewN ?_ _ | refine blk_drew ?_ | refine blk_alloc ?_ _)); refine blk_put (cs := #[.string t285, .int .i64 0, .slice none 0 0, .int .i64 0, .int .i64 0]) ?_ 1 _ rfl; (with_reducible repeat (first | refine blk_drewN ?_ _ | refine blk_drew ?_ | refine blk_alloc ?_ _)); refine blk_put (cs := #[.string (⟨#[]⟩ : ByteArray), .int .i64 0, .slice none 0 0, .int .i64 0, .int .i64 0]) ?_ 0 _ rfl; (with_reducible repeat (first | refine blk_drewN ?_ _ | refine blk_drew ?_ | refine blk_alloc ?_ _)); exact BK292.out) hb); have n5_ := Aside0.mk (below_step zb9_10 hb); clear HO284; clear HO289; clear BK278; clear BK292; clear HB; have HO284 := n0_; have HO289 := n1_; have HO297 := n2_; have BK278 := n3_; have BK292 := n4_; have HB := n5_; clear n0_ n1_ n2_ n3_ n4_ n5_; (try clear hb); (try clear hb2); (try clear hk); (try clear hi); (try clear ho0)) | ((with_reducible refine gate_dst (N := 9) rfl ?_); refine box_event ?hg (N := 9) ?hd (cs := #[.string (⟨#[]⟩ : ByteArray), .int .i64 0, .slice none 0 0]) (t := 40) ?hr ?_; (case hd => rfl); (case hg => rfl); (case hr => first | (go_simp; done) | (go_simp; rfl)); intro gb298 hg w33 hbox hb; have n0_ := Aside0.mk (Kd.R_below zb5_10 hb); have n1_ := Aside0.mk (Kd.R_below zb6_10 hb); have n2_ := Aside0.mk (Kd.R_below zb10_10 hb); have n3_ := Aside0.mk (blk_below (g := gb278) (o := .cells #[.string a0_0, .int .i64 a0_1, .slice A0_2 l0_2.length c0_2] 35 (0, 0)) zb3_10 hb); have n4_ := Aside0.mk (blk_below (g := gb292) (o := .cells #[.string t285, .int .i64 t286, .slice Ao30 t287.length co30, .int .i64 t290, .int .i64 t291] 51 (0, 0)) zb11_10 hb); have n5_ := Aside0.mk (below_step zb9_10 hb); have n6_ := Aside0.mk (hbox); have n7_ := Aside0.mk ((by rw [hg]; exact (below_size zb9_10) : w.heap.size ≤ gb298)); have n8_ := Aside0.mk ((by rw [hg]; exact (below_size zb9_10) : w.heap.size ≤ gb298)); have n9_ := Aside0.mk ((zb7_10 : gb278 ≠ gb298)); have n10_ := Aside0.mk ((zb8_10 : gb298 ≠ gb278)); have n11_ := Aside0.mk ((zb12_10 : gb292 ≠ gb298)); have n12_ := Aside0.mk ((zb13_10 : gb298 ≠ gb292)); clear HO284; clear HO289; clear HO297; clear BK278; clear BK292; clear HB; have HO284 := n0_; have HO289 := n1_; have HO297 := n2_; have BK278 := n3_; have BK292 := n4_; have HB := n5_; have BK298 := n6_; have GW298 := n7_; have GE298 := n8_; have NB278_298 := n9_; have NB298_278 := n10_; have NB292_298 := n11_; have NB298_292 := n12_; clear n0_ n1_ n2_ n3_ n4_ n5_ n6_ n7_ n8_ n9_ n10_ n11_ n12_; clear hb hbox hg; have hnb34 := NB298_278.out; have hnc34 := NB278_298.out; have hnb35 := NB298_292.out; have hnc35 := NB292_298.out; have hcz36_0 : w33.cell? ⟨gb298, 0, none⟩ = some (.string (⟨#[]⟩ : ByteArray)) := (blk_cell BK298.out 0).trans rfl; have hcz36_1 : w33.cell? ⟨gb298, 1, none⟩ = some (.int .i64 0) := (blk_cell BK298.out 1).trans rfl; have hcz36_2 : w33.cell? ⟨gb298, 2, none⟩ = some (.slice none 0 0) := (blk_cell BK298.out 2).trans rfl; have hfz36_0 := blk_frozen BK298.out 0; have hfz36_1 := blk_frozen BK298.out 1; have hfz36_2 := blk_frozen BK298.out 2; obtain ⟨Ao37, co37, eo37⟩ := Kd.R_slice HO297.out; subst eo37) | ((with_reducible refine gate_callee (f := 33) rfl ?_); refine goesL_ (some 30) rfl rfl Tryd.func33 (by kernel_rfl) rfl #[.agg #[.string t293, .int .i64 t294, .slice Ao37 t295.length co37], .int .i64 a1, .bool a2] rfl zb2_10 ?_; (with_reducible refine (impl_DbVerified.calls k t293 t294 _ _ t295 a1 a2 t299 t300 t301 t304 t305 _ ?side1 ?side2 A12.out (by first | exact hmx | exact hmx.below HB.out | exact hmx.below (by repeat (first | (with_reducible first | exact HB.out | apply below_alloc | apply pw_below_drewN | apply below_drew1 | refine below_set ?_ GE278.out | refine below_set ?_ GE292.out | refine below_set ?_ GE298.out | refine below_set ?_ GE306.out | refine below_set ?_ GE332.out | exact Below.refl _ _) | exact HB.out | exact Below.refl _ _)))).mono ?_); (case side1 => refine (Kd.R_reads' (e := 71) (base := w.heap.size) (ok := fun k_ => ((True ∧ some k_ ≠ (.slice Ao25 t282.length co25 : Value).ownBlock) ∧ some k_ ≠ (.slice Ao30 t287.length co30 : Value).ownBlock)) (n := t295.length) (c := co37) ?_).2.2; exact zb14_10); (case side2 => exact (Kd.R_reads' HO297.out).2.1); rintro e w38 ⟨v302, rfl, ho0, hb⟩; refine ⟨_, rfl, ?_⟩; have n0_ := Aside0.mk (Kd.R_elder' (by (with_reducible repeat (first | apply Kd.R_alloc | apply Kd.R_drewN | apply Kd.R_drew)); exact (Kd.R_mono (Kd.R_far (p := ⟨gb298, 2, none⟩) (Kd.R_far (p := ⟨gb298, 1, none⟩) (Kd.R_far (p := ⟨gb298, 0, none⟩) (Kd.R_types HO284.out BK298.out (by decide)) (fun _ hk => hk.2) (.string t293)) (fun _ hk => hk.2) (.int .i64 t294)) (fun _ hk => hk.2) (.slice Ao37 t295.length co37)) (fun _ h_ => h_.1))) (Kd.R_base ho0) hb); have n1_ := Aside0.mk (Kd.R_elder' (by (with_reducible repeat (first | apply Kd.R_alloc | apply Kd.R_drewN | apply Kd.R_drew)); exact (Kd.R_mono (Kd.R_far (p := ⟨gb298, 2, none⟩) (Kd.R_far (p := ⟨gb298, 1, none⟩) (Kd.R_far (p := ⟨gb298, 0, none⟩) (Kd.R_types HO289.out BK298.out (by decide)) (fun _ hk => hk.2) (.string t293)) (fun _ hk => hk.2) (.int .i64 t294)) (fun _ hk => hk.2) (.slice Ao37 t295.length co37)) (fun _ h_ => h_.1))) (Kd.R_base ho0) hb); have n2_ := Aside0.mk (Kd.R_elder' zb14_10 (Kd.R_base ho0) hb); have n3_ := Aside0.mk (Kd.R_lower (Kd.R_new' (Kd.R_new' (Kd.R_new' ho0 (Kd.R_lt (by (with_reducible repeat (first | apply Kd.R_alloc | apply Kd.R_drewN | apply Kd.R_drew)); exact (Kd.R_mono (Kd.R_far (p := ⟨gb298, 2, none⟩) (Kd.R_far (p := ⟨gb298, 1, none⟩) (Kd.R_far (p := ⟨gb298, 0, none⟩) (Kd.R_types HO284.out BK298.out (by decide)) (fun _ hk => hk.2) (.string t293)) (fun _ hk => hk.2) (.int .i64 t294)) (fun _ hk => hk.2) (.slice Ao37 t295.length co37)) (fun _ h_ => h_.1))))) (Kd.R_lt (by (with_reducible repeat (first | apply Kd.R_alloc | apply Kd.R_drewN | apply Kd.R_drew)); exact (Kd.R_mono (Kd.R_far (p := ⟨gb298, 2, none⟩) (Kd.R_far (p := ⟨gb298, 1, none⟩) (Kd.R_far (p := ⟨gb298, 0, none⟩) (Kd.R_types HO289.out BK298.out (by decide)) (fun _ hk => hk.2) (.string t293)) (fun _ hk => hk.2) (.int .i64 t294)) (fun _ hk => hk.2) (.slice Ao37 t295.length co37)) (fun _ h_ => h_.1))))) (Kd.R_lt zb14_10)) (below_size zb15_10)); have n4_ := Aside0.mk (blk_below (g := gb278) (o := .cells #[.string a0_0, .int .i64 a0_1, .slice A0_2 l0_2.length c0_2] 35 (0, 0)) (by (with_reducible repeat (first | refine blk_drewN ?_ _ | refine blk_drew ?_ | refine blk_alloc ?_ _)); refine blk_far ?_ NB278_298.out _; (with_reducible repeat (first | refine blk_drewN ?_ _ | refine blk_drew ?_ | refine blk_alloc ?_ _)); refine blk_far ?_ NB278_298.out _; (with_reducible repeat (first | refine blk_drewN ?_ _ | refine blk_drew ?_ | refine blk_alloc ?_ _)); refine blk_far ?_ NB278_298.out _; (with_reducible repeat (first | refine blk_drewN ?_ _ | refine blk_drew ?_ | refine blk_alloc ?_ _)); exact BK278.out) hb); have n5_ := Aside0.mk (blk_below (g := gb292) (o := .cells #[.string t285, .int .i64 t286, .slice Ao30 t287.length co30, .int .i64 t290, .int .i64 t291] 51 (0, 0)) (by (with_reducible repeat (first | refine blk_drewN ?_ _ | refine blk_drew ?_ | refine blk_alloc ?_ _)); refine blk_far ?_ NB292_298.out _; (with_reducible repeat (first | refine blk_drewN ?_ _ | refine blk_drew ?_ | refine blk_alloc ?_ _)); refine blk_far ?_ NB292_298.out _; (with_reducible repeat (first | refine blk_drewN ?_ _ | refine blk_drew ?_ | refine blk_alloc ?_ _)); refine blk_far ?_ NB292_298.out _; (with_reducible repeat (first | refine blk_drewN ?_ _ | refine blk_drew ?_ | refine blk_alloc ?_ _)); exact BK292.out) hb); have n6_ := Aside0.mk (blk_below (g := gb298) (o := .cells #[.string t293, .int .i64 t294, .slice Ao37 t295.length co37] 40 (0, 0)) (by (with_reducible repeat (first | refine blk_drewN ?_ _ | refine blk_drew ?_ | refine blk_alloc ?_ _)); refine blk_put (cs := #[.string t293, .int .i64 t294, .slice none 0 0]) ?_ 2 _ rfl; (with_reducible repeat (first | refine blk_drewN ?_ _ | refine blk_drew ?_ | refine blk_alloc ?_ _)); refine blk_put (cs := #[.string t293, .int .i64 0, .slice none 0 0]) ?_ 1 _ rfl; (with_reducible repeat (first | refine blk_drewN ?_ _ | refine blk_drew ?_ | refine blk_alloc ?_ _)); refine blk_put (cs := #[.string (⟨#[]⟩ : ByteArray), .int .i64 0, .slice none 0 0]) ?_ 0 _ rfl; (with_reducible repeat (first | refine blk_drewN ?_ _ | refine blk_drew ?_ | refine blk_alloc ?_ _)); exact BK298.out) hb); have n7_ := Aside0.mk (below_step zb15_10 hb); clear HO284; clear HO289; clear HO297; clear BK278; clear BK292; clear BK298; clear HB; have HO284 := n0_; have HO289 := n1_; have HO297 := n2_; have HO303 := n3_; have BK278 := n4_; have BK292 := n5_; have BK298 := n6_; have HB := n7_; clear n0_ n1_ n2_ n3_ n4_ n5_ n6_ n7_; (try clear hb); (try clear hb2); (try clear hk); (try clear hi); (try clear ho0)) | ((with_reducible refine gate_dst (N := 10) rfl ?_); refine box_event ?hg (N := 10) ?hd (cs := #[.string (⟨#[]⟩ : ByteArray), .int .i64 0, .slice none 0 0, .int .i64 0, .int .i64 0]) (t := 51) ?hr ?_; (case hd => rfl); (case hg => rfl); (case hr => first | (go_simp; done) | (go_simp; rfl)); intro gb306 hg w39 hbox hb; have n0_ := Aside0.mk (Kd.R_below zb5_10 hb); have n1_ := Aside0.mk (Kd.R_below zb6_10 hb); have n2_ := Aside0.mk (Kd.R_below zb10_10 hb); have n3_ := Aside0.mk (Kd.R_below zb16_10 hb); have n4_ := Aside0.mk (blk_below (g := gb278) (o := .cells #[.string a0_0, .int .i64 a0_1, .slice A0_2 l0_2.length c0_2] 35 (0, 0)) zb3_10 hb); have n5_ := Aside0.mk (blk_below (g := gb292) (o := .cells #[.string t285, .int .i64 t286, .slice Ao30 t287.length co30, .int .i64 t290, .int .i64 t291] 51 (0, 0)) zb11_10 hb); have n6_ := Aside0.mk (blk_below (g := gb298) (o := .cells #[.string t293, .int .i64 t294, .slice Ao37 t295.length co37] 40 (0, 0)) zb17_10 hb); have n7_ := Aside0.mk (below_step zb15_10 hb); have n8_ := Aside0.mk (hbox); have n9_ := Aside0.mk ((by rw [hg]; exact (below_size zb15_10) : w.heap.size ≤ gb306)); have n10_ := Aside0.mk ((by rw [hg]; exact (below_size zb15_10) : w.heap.size ≤ gb306)); have n11_ := Aside0.mk ((zb7_10 : gb278 ≠ gb306)); have n12_ := Aside0.mk ((zb8_10 : gb306 ≠ gb278)); have n13_ := Aside0.mk ((zb12_10 : gb292 ≠ gb306)); have n14_ := Aside0.mk ((zb13_10 : gb306 ≠ gb292)); have n15_ := Aside0.mk ((by rw [hg]; exact Nat.ne_of_lt (blk_lt (g := gb298) (o := .cells #[.string t293, .int .i64 t294, .slice Ao37 t295.length co37] 40 (0, 0)) zb17_10) : gb298 ≠ gb306)); have n16_ := Aside0.mk ((by rw [hg]; exact Nat.ne_of_gt (blk_lt (g := gb298) (o := .cells #[.string t293, .int .i64 t294, .slice Ao37 t295.length co37] 40 (0, 0)) zb17_10) : gb306 ≠ gb298)); clear HO284; clear HO289; clear HO297; clear HO303; clear BK278; clear BK292; clear BK298; clear HB; have HO284 := n0_; have HO289 := n1_; have HO297 := n2_; have HO303 := n3_; have BK278 := n4_; have BK292 := n5_; have BK298 := n6_; have HB := n7_; have BK306 := n8_; have GW306 := n9_; have GE306 := n10_; have NB278_306 := n11_; have NB306_278 := n12_; have NB292_306 := n13_; have NB306_292 := n14_; have NB298_306 := n15_; have NB306_298 := n16_; clear n0_ n1_ n2_ n3_ n4_ n5_ n6_ n7_ n8_ n9_ n10_ n11_ n12_ n13_ n14_ n15_ n16_; clear hb hbox hg; have hnb40 := NB306_278.out; have hnc40 := NB278_306.out; have hnb41 := NB306_292.out; have hnc41 := NB292_306.out; have hnb42 := NB306_298.out; have hnc42 := NB298_306.out; have hcz43_0 : w39.cell? ⟨gb306, 0, none⟩ = some (.string (⟨#[]⟩ : ByteArray)) := (blk_cell BK306.out 0).trans rfl; have hcz43_1 : w39.cell? ⟨gb306, 1, none⟩ = some (.int .i64 0) := (blk_cell BK306.out 1).trans rfl; have hcz43_2 : w39.cell? ⟨gb306, 2, none⟩ = some (.slice none 0 0) := (blk_cell BK306.out 2).trans rfl; have hcz43_3 : w39.cell? ⟨gb306, 3, none⟩ = some (.int .i64 0) := (blk_cell BK306.out 3).trans rfl; have hcz43_4 : w39.cell? ⟨gb306, 4, none⟩ = some (.int .i64 0) := (blk_cell BK306.out 4).trans rfl; have hfz43_0 := blk_frozen BK306.out 0; have hfz43_1 := blk_frozen BK306.out 1; have hfz43_2 := blk_frozen BK306.out 2; have hfz43_3 := blk_frozen BK306.out 3; have hfz43_4 := blk_frozen BK306.out 4; obtain ⟨Ao44, co44, eo44⟩ := Kd.R_slice HO303.out; subst eo44; have hcz45_0 : w39.cell? ⟨gb292, 0, none⟩ = some (.string t285) := (blk_cell BK292.out 0).trans rfl; have hcz45_1 : w39.cell? ⟨gb292, 1, none⟩ = some (.int .i64 t286) := (blk_cell BK292.out 1).trans rfl; have hcz45_2 : w39.cell? ⟨gb292, 2, none⟩ = some (.slice Ao30 t287.length co30) := (blk_cell BK292.out 2).trans rfl; have hcz45_3 : w39.cell? ⟨gb292, 3, none⟩ = some (.int .i64 t290) := (blk_cell BK292.out 3).trans rfl; have hcz45_4 : w39.cell? ⟨gb292, 4, none⟩ = some (.int .i64 t291) := (blk_cell BK292.out 4).trans rfl; have hfz45_0 := blk_frozen BK292.out 0; have hfz45_1 := blk_frozen BK292.out 1; have hfz45_2 := blk_frozen BK292.out 2; have hfz45_3 := blk_frozen BK292.out 3; have hfz45_4 := blk_frozen BK292.out 4) | ((with_reducible refine gate_callee (f := 28) rfl ?_); refine goesL_ (some 33) rfl rfl Tryd.func28 (by kernel_rfl) rfl #[.agg #[.string t299, .int .i64 t300, .slice Ao44 t301.length co44, .int .i64 t304, .int .i64 t305], .agg #[.string t285, .int .i64 t286, .slice Ao30 t287.length co30, .int .i64 t290, .int .i64 t291]] rfl zb2_10 ?_; (with_reducible refine (laws_eqDialbackOut.calls k t299 t300 _ _ t301 t304 t305 t285 t286 _ _ t287 t290 t291 true _ ?side1 ?side2 ?side3 ?side4 A13.out).mono ?_); (case side1 => refine (Kd.R_reads' (e := 71) (base := w.heap.size) (ok := fun k_ => (((True ∧ some k_ ≠ (.slice Ao25 t282.length co25 : Value).ownBlock) ∧ some k_ ≠ (.slice Ao30 t287.length co30 : Value).ownBlock) ∧ some k_ ≠ (.slice Ao37 t295.length co37 : Value).ownBlock)) (n := t301.length) (c := co44) ?_).2.2; exact (by (with_reducible repeat (first | apply Kd.R_alloc | apply Kd.R_drewN | apply Kd.R_drew)); exact (Kd.R_mono (Kd.R_far (p := ⟨gb306, 4, none⟩) (Kd.R_far (p := ⟨gb306, 3, none⟩) (Kd.R_far (p := ⟨gb306, 2, none⟩) (Kd.R_far (p := ⟨gb306, 1, none⟩) (Kd.R_far (p := ⟨gb306, 0, none⟩) (Kd.R_types HO303.out BK306.out (by decide)) (fun _ hk => hk.2) (.string t299)) (fun _ hk => hk.2) (.int .i64 t300)) (fun _ hk => hk.2) (.slice Ao44 t301.length co44)) (fun _ hk => hk.2) (.int .i64 t304)) (fun _ hk => hk.2) (.int .i64 t305)) (fun _ h_ => h_.1)))); (case side2 => exact (Kd.R_reads' HO303.out).2.1); (case side3 => refine (Kd.R_reads' (e := 71) (base := w.heap.size) (ok := fun k_ => (((True ∧ some k_ ≠ (.slice Ao25 t282.length co25 : Value).ownBlock) ∧ some k_ ≠ (.slice Ao37 t295.length co37 : Value).ownBlock) ∧ some k_ ≠ (.slice Ao44 t301.length co44 : Value).ownBlock)) (n := t287.length) (c := co30) ?_).2.2; exact (by (with_reducible repeat (first | apply Kd.R_alloc | apply Kd.R_drewN | apply Kd.R_drew)); exact (Kd.R_mono (Kd.R_far (p := ⟨gb306, 4, none⟩) (Kd.R_far (p := ⟨gb306, 3, none⟩) (Kd.R_far (p := ⟨gb306, 2, none⟩) (Kd.R_far (p := ⟨gb306, 1, none⟩) (Kd.R_far (p := ⟨gb306, 0, none⟩) (Kd.R_types HO289.out BK306.out (by decide)) (fun _ hk => hk.2) (.string t299)) (fun _ hk => hk.2) (.int .i64 t300)) (fun _ hk => hk.2) (.slice Ao44 t301.length co44)) (fun _ hk => hk.2) (.int .i64 t304)) (fun _ hk => hk.2) (.int .i64 t305)) (fun _ h_ => h_.1)))); (case side4 => exact (Kd.R_reads' HO289.out).2.1); rintro e w46 ⟨rfl, hb⟩; refine ⟨_, rfl, ?_⟩; have n0_ := Aside0.mk (Kd.R_below (by (with_reducible repeat (first | apply Kd.R_alloc | apply Kd.R_drewN | apply Kd.R_drew)); exact (Kd.R_mono (Kd.R_far (p := ⟨gb306, 4, none⟩) (Kd.R_far (p := ⟨gb306, 3, none⟩) (Kd.R_far (p := ⟨gb306, 2, none⟩) (Kd.R_far (p := ⟨gb306, 1, none⟩) (Kd.R_far (p := ⟨gb306, 0, none⟩) (Kd.R_types HO284.out BK306.out (by decide)) (fun _ hk => hk.2) (.string t299)) (fun _ hk => hk.2) (.int .i64 t300)) (fun _ hk => hk.2) (.slice Ao44 t301.length co44)) (fun _ hk => hk.2) (.int .i64 t304)) (fun _ hk => hk.2) (.int .i64 t305)) (fun _ h_ => h_.1))) hb); have n1_ := Aside0.mk (Kd.R_below (by (with_reducible repeat (first | apply Kd.R_alloc | apply Kd.R_drewN | apply Kd.R_drew)); exact (Kd.R_mono (Kd.R_far (p := ⟨gb306, 4, none⟩) (Kd.R_far (p := ⟨gb306, 3, none⟩) (Kd.R_far (p := ⟨gb306, 2, none⟩) (Kd.R_far (p := ⟨gb306, 1, none⟩) (Kd.R_far (p := ⟨gb306, 0, none⟩) (Kd.R_types HO289.out BK306.out (by decide)) (fun _ hk => hk.2) (.string t299)) (fun _ hk => hk.2) (.int .i64 t300)) (fun _ hk => hk.2) (.slice Ao44 t301.length co44)) (fun _ hk => hk.2) (.int .i64 t304)) (fun _ hk => hk.2) (.int .i64 t305)) (fun _ h_ => h_.1))) hb); have n2_ := Aside0.mk (Kd.R_below (by (with_reducible repeat (first | apply Kd.R_alloc | apply Kd.R_drewN | apply Kd.R_drew)); exact (Kd.R_mono (Kd.R_far (p := ⟨gb306, 4, none⟩) (Kd.R_far (p := ⟨gb306, 3, none⟩) (Kd.R_far (p := ⟨gb306, 2, none⟩) (Kd.R_far (p := ⟨gb306, 1, none⟩) (Kd.R_far (p := ⟨gb306, 0, none⟩) (Kd.R_types HO297.out BK306.out (by decide)) (fun _ hk => hk.2) (.string t299)) (fun _ hk => hk.2) (.int .i64 t300)) (fun _ hk => hk.2) (.slice Ao44 t301.length co44)) (fun _ hk => hk.2) (.int .i64 t304)) (fun _ hk => hk.2) (.int .i64 t305)) (fun _ h_ => h_.1))) hb); have n3_ := Aside0.mk (Kd.R_below (by (with_reducible repeat (first | apply Kd.R_alloc | apply Kd.R_drewN | apply Kd.R_drew)); exact (Kd.R_mono (Kd.R_far (p := ⟨gb306, 4, none⟩) (Kd.R_far (p := ⟨gb306, 3, none⟩) (Kd.R_far (p := ⟨gb306, 2, none⟩) (Kd.R_far (p := ⟨gb306, 1, none⟩) (Kd.R_far (p := ⟨gb306, 0, none⟩) (Kd.R_types HO303.out BK306.out (by decide)) (fun _ hk => hk.2) (.string t299)) (fun _ hk => hk.2) (.int .i64 t300)) (fun _ hk => hk.2) (.slice Ao44 t301.length co44)) (fun _ hk => hk.2) (.int .i64 t304)) (fun _ hk => hk.2) (.int .i64 t305)) (fun _ h_ => h_.1))) hb); have n4_ := Aside0.mk (blk_below (g := gb278) (o := .cells #[.string a0_0, .int .i64 a0_1, .slice A0_2 l0_2.length c0_2] 35 (0, 0)) (by (with_reducible repeat (first | refine blk_drewN ?_ _ | refine blk_drew ?_ | refine blk_alloc ?_ _)); refine blk_far ?_ NB278_306.out _; (with_reducible repeat (first | refine blk_drewN ?_ _ | refine blk_drew ?_ | refine blk_alloc ?_ _)); refine blk_far ?_ NB278_306.out _; (with_reducible repeat (first | refine blk_drewN ?_ _ | refine blk_drew ?_ | refine blk_alloc ?_ _)); refine blk_far ?_ NB278_306.out _; (with_reducible repeat (first | refine blk_drewN ?_ _ | refine blk_drew ?_ | refine blk_alloc ?_ _)); refine blk_far ?_ NB278_306.out _; (with_reducible repeat (first | refine blk_drewN ?_ _ | refine blk_drew ?_ | refine blk_alloc ?_ _)); refine blk_far ?_ NB278_306.out _; (with_reducible repeat (first | refine blk_drewN ?_ _ | refine blk_drew ?_ | refine blk_alloc ?_ _)); exact BK278.out) hb); have n5_ := Aside0.mk (blk_below (g := gb292) (o := .cells #[.string t285, .int .i64 t286, .slice Ao30 t287.length co30, .int .i64 t290, .int .i64 t291] 51 (0, 0)) (by (with_reducible repeat (first | refine blk_drewN ?_ _ | refine blk_drew ?_ | refine blk_alloc ?_ _)); refine blk_far ?_ NB292_306.out _; (with_reducible repeat (first | refine blk_drewN ?_ _ | refine blk_drew ?_ | refine blk_alloc ?_ _)); refine blk_far ?_ NB292_306.out _; (with_reducible repeat (first | refine blk_drewN ?_ _ | refine blk_drew ?_ | refine blk_alloc ?_ _)); refine blk_far ?_ NB292_306.out _; (with_reducible repeat (first | refine blk_drewN ?_ _ | refine blk_drew ?_ | refine blk_alloc ?_ _)); refine blk_far ?_ NB292_306.out _; (with_reducible repeat (first | refine blk_drewN ?_ _ | refine blk_drew ?_ | refine blk_alloc ?_ _)); refine blk_far ?_ NB292_306.out _; (with_reducible repeat (first | refine blk_drewN ?_ _ | refine blk_drew ?_ | refine blk_alloc ?_ _)); exact BK292.out) hb); have n6_ := Aside0.mk (blk_below (g := gb298) (o := .cells #[.string t293, .int .i64 t294, .slice Ao37 t295.length co37] 40 (0, 0)) (by (with_reducible repeat (first | refine blk_drewN ?_ _ | refine blk_drew ?_ | refine blk_alloc ?_ _)); refine blk_far ?_ NB298_306.out _; (with_reducible repeat (first | refine blk_drewN ?_ _ | refine blk_drew ?_ | refine blk_alloc ?_ _)); refine blk_far ?_ NB298_306.out _; (with_reducible repeat (first | refine blk_drewN ?_ _ | refine blk_drew ?_ | refine blk_alloc ?_ _)); refine blk_far ?_ NB298_306.out _; (with_reducible repeat (first | refine blk_drewN ?_ _ | refine blk_drew ?_ | refine blk_alloc ?_ _)); refine blk_far ?_ NB298_306.out _; (with_reducible repeat (first | refine blk_drewN ?_ _ | refine blk_drew ?_ | refine blk_alloc ?_ _)); refine blk_far ?_ NB298_306.out _; (with_reducible repeat (first | refine blk_drewN ?_ _ | refine blk_drew ?_ | refine blk_alloc ?_ _)); exact BK298.out) hb); have n7_ := Aside0.mk (blk_below (g := gb306) (o := .cells #[.string t299, .int .i64 t300, .slice Ao44 t301.length co44, .int .i64 t304, .int .i64 t305] 51 (0, 0)) (by (with_reducible repeat (first | refine blk_drewN ?_ _ | refine blk_drew ?_ | refine blk_alloc ?_ _)); refine blk_put (cs := #[.string t299, .int .i64 t300, .slice Ao44 t301.length co44, .int .i64 t304, .int .i64 0]) ?_ 4 _ rfl; (with_reducible repeat (first | refine blk_drewN ?_ _ | refine blk_drew ?_ | refine blk_alloc ?_ _)); refine blk_put (cs := #[.string t299, .int .i64 t300, .slice Ao44 t301.length co44, .int .i64 0, .int .i64 0]) ?_ 3 _ rfl; (with_reducible repeat (first | refine blk_drewN ?_ _ | refine blk_drew ?_ | refine blk_alloc ?_ _)); refine blk_put (cs := #[.string t299, .int .i64 t300, .slice none 0 0, .int .i64 0, .int .i64 0]) ?_ 2 _ rfl; (with_reducible repeat (first | refine blk_drewN ?_ _ | refine blk_drew ?_ | refine blk_alloc ?_ _)); refine blk_put (cs := #[.string t299, .int .i64 0, .slice none 0 0, .int .i64 0, .int .i64 0]) ?_ 1 _ rfl; (with_reducible repeat (first | refine blk_drewN ?_ _ | refine blk_drew ?_ | refine blk_alloc ?_ _)); refine blk_put (cs := #[.string (⟨#[]⟩ : ByteArray), .int .i64 0, .slice none 0 0, .int .i64 0, .int .i64 0]) ?_ 0 _ rfl; (with_reducible repeat (first | refine blk_drewN ?_ _ | refine blk_drew ?_ | refine blk_alloc ?_ _)); exact BK306.out) hb); have n8_ := Aside0.mk (below_step zb18_10 hb); clear HO284; clear HO289; clear HO297; clear HO303; clear BK278; clear BK292; clear BK298; clear BK306; clear HB; have HO284 := n0_; have HO289 := n1_; have HO297 := n2_; have HO303 := n3_; have BK278 := n4_; have BK292 := n5_; have BK298 := n6_; have BK306 := n7_; have HB := n8_; clear n0_ n1_ n2_ n3_ n4_ n5_ n6_ n7_ n8_; (try clear hb); (try clear hb2); (try clear hk); (try clear hi)))
    have n0_ := Aside0.mk (Kd.R_drew HO284.out)
    have n1_ := Aside0.mk (Kd.R_drew HO289.out)
    have n2_ := Aside0.mk (Kd.R_drew HO297.out)
    have n3_ := Aside0.mk (Kd.R_drew HO303.out)
    have n4_ := Aside0.mk (blk_drew BK278.out)
    have n5_ := Aside0.mk (blk_drew BK292.out)
    have n6_ := Aside0.mk (blk_drew BK298.out)
    have n7_ := Aside0.mk (blk_drew BK306.out)
    have n8_ := Aside0.mk (below_drew1 HB.out)
    clear HO284
    clear HO289
    clear HO297
    clear HO303
    clear BK278
    clear BK292
    clear BK298
    clear BK306
    clear HB
    have HO284 := n0_
    have HO289 := n1_
    have HO297 := n2_
    have HO303 := n3_
    have BK278 := n4_
    have BK292 := n5_
    have BK298 := n6_
    have BK306 := n7_
    have HB := n8_
    clear n0_ n1_ n2_ n3_ n4_ n5_ n6_ n7_ n8_
    refine start_ (n := 5) (S := fun w' => w'.cell? ⟨gb298, 0, none⟩ = some (.string t293) ∧ w'.cell? ⟨gb298, 1, none⟩ = some (.int .i64 t294) ∧ w'.cell? ⟨gb298, 2, none⟩ = some (.slice Ao37 t295.length co37) ∧ w'.cell? ⟨gb278, 0, none⟩ = some (.string a0_0) ∧ w'.cell? ⟨gb278, 1, none⟩ = some (.int .i64 a0_1) ∧ w'.cell? ⟨gb278, 2, none⟩ = some (.slice A0_2 l0_2.length c0_2)) (ds := []) #[false, false, false, false, false] (by kernel_rfl) rfl rfl ⟨(blk_cell BK298.out 0).trans rfl, (blk_cell BK298.out 1).trans rfl, (blk_cell BK298.out 2).trans rfl, (blk_cell BK278.out 0).trans rfl, (blk_cell BK278.out 1).trans rfl, (blk_cell BK278.out 2).trans rfl⟩ (fun hHeld => ?_)
    generalize w46.drew = w47 at HO284 HO289 HO297 HO303 BK278 BK292 BK298 BK306 HB hHeld ⊢
    refine take_ (i := 0) (N := some 35) (v := ?_) (a' := ?_) #[true, false, false, false, false] rfl rfl (by kernel_rfl) (fun _ _ _ h => h) (Or.inl ⟨by rfl, ?_⟩) hHeld ?_ ?_
    rotate_left
    ·
     rintro w' ⟨s0, s1, s2, s3, s4, s5⟩
     go_simp
     with_reducible rfl
    rotate_left
    ·
     simp only [Act.put, List.setIfInBounds_toArray, List.set_cons_zero, List.set_cons_succ, i64_w, i32_w]
     rfl
    refine take_ (i := 1) (N := some 36) (v := ?_) (a' := ?_) #[true, true, false, false, false] rfl rfl (by kernel_rfl) (fun _ _ _ h => h) (Or.inl ⟨by rfl, ?_⟩) hHeld ?_ ?_
    rotate_left
    ·
     rintro w' ⟨s0, s1, s2, s3, s4, s5⟩
     go_simp
     with_reducible rfl
    rotate_left
    ·
     simp only [Act.put, List.setIfInBounds_toArray, List.set_cons_zero, List.set_cons_succ, i64_w, i32_w]
     rfl
    refine one_ (i := 2) (N := some 37) #[true, true, true, false, false] rfl rfl (by kernel_rfl) (by decide) (fun K hK => ?_)
    refine goes_ Tryd.func17 (by kernel_rfl) rfl #[.agg #[.string a0_0, .int .i64 a0_1, .slice A0_2 l0_2.length c0_2]] (by rfl) rfl rfl zb2_10 ?_
    with_reducible refine (laws_toDialback.calls k a0_0 a0_1 _ _ l0_2 t308 t309 t310 _ ?side1 ?side2 A15.out).mono ?_
    (case side1 => repeat (first | exact (Kd.C_below HR0_2.out HB.out) | (with_reducible refine Kd.C_alloc ?_ _) | (with_reducible refine Kd.C_drewN ?_ _) | (with_reducible refine Kd.C_drew ?_)))
    (case side2 => exact HC0_2.out)
    rintro e w48 ⟨v311, rfl, ho0, hb⟩
    refine ⟨_, rfl, ?_⟩
    have n0_ := Aside0.mk (Kd.R_elder' zb5_10 (Kd.R_base ho0) hb)
    have n1_ := Aside0.mk (Kd.R_elder' zb6_10 (Kd.R_base ho0) hb)
    have n2_ := Aside0.mk (Kd.R_elder' zb10_10 (Kd.R_base ho0) hb)
    have n3_ := Aside0.mk (Kd.R_elder' zb16_10 (Kd.R_base ho0) hb)
    have n4_ := Aside0.mk (Kd.R_lower (Kd.R_new' (Kd.R_new' (Kd.R_new' (Kd.R_new' ho0 (Kd.R_lt zb5_10)) (Kd.R_lt zb6_10)) (Kd.R_lt zb10_10)) (Kd.R_lt zb16_10)) (below_size zb18_10))
    have n5_ := Aside0.mk (blk_below (g := gb278) (o := .cells #[.string a0_0, .int .i64 a0_1, .slice A0_2 l0_2.length c0_2] 35 (0, 0)) zb3_10 hb)
    have n6_ := Aside0.mk (blk_below (g := gb292) (o := .cells #[.string t285, .int .i64 t286, .slice Ao30 t287.length co30, .int .i64 t290, .int .i64 t291] 51 (0, 0)) zb11_10 hb)
    have n7_ := Aside0.mk (blk_below (g := gb298) (o := .cells #[.string t293, .int .i64 t294, .slice Ao37 t295.length co37] 40 (0, 0)) zb17_10 hb)
    have n8_ := Aside0.mk (blk_below (g := gb306) (o := .cells #[.string t299, .int .i64 t300, .slice Ao44 t301.length co44, .int .i64 t304, .int .i64 t305] 51 (0, 0)) zb19_10 hb)
    have n9_ := Aside0.mk (below_step zb18_10 hb)
    clear HO284
    clear HO289
    clear HO297
    clear HO303
    clear BK278
    clear BK292
    clear BK298
    clear BK306
    clear HB
    have HO284 := n0_
    have HO289 := n1_
    have HO297 := n2_
    have HO303 := n3_
    have HO312 := n4_
    have BK278 := n5_
    have BK292 := n6_
    have BK298 := n7_
    have BK306 := n8_
    have HB := n9_
    clear n0_ n1_ n2_ n3_ n4_ n5_ n6_ n7_ n8_ n9_
    (try clear hb)
    (try clear hb2)
    (try clear hk)
    (try clear hi)
    (try clear ho0)
    obtain ⟨Ao49, co49, eo49⟩ := Kd.R_slice HO312.out
    (first | subst eo49 | (injection eo49 with f1_ f2_ f3_; have f4_ := f1_.symm; have f5_ := f3_.symm; clear f1_ f2_ f3_; subst f4_; subst f5_))
    refine hK.out _ _ ⟨(blk_cell BK298.out 0).trans rfl, (blk_cell BK298.out 1).trans rfl, (blk_cell BK298.out 2).trans rfl, (blk_cell BK278.out 0).trans rfl, (blk_cell BK278.out 1).trans rfl, (blk_cell BK278.out 2).trans rfl⟩ (fun hHeld => ?_)
    clear hK K
    refine norm_ (a' := ?_) ?_ ?_
    rotate_left
    ·
     show Act.put _ (some 37) _ = _
     simp only [Act.put, List.setIfInBounds_toArray, List.set_cons_zero, List.set_cons_succ, i64_w, i32_w]
     rfl
    refine one_ (i := 3) (N := some 38) #[true, true, true, true, false] rfl rfl (by kernel_rfl) (by decide) (fun K hK => ?_)
    refine goes_ Tryd.func19 (by kernel_rfl) rfl #[.agg #[.string t293, .int .i64 t294, .slice Ao37 t295.length co37], .agg #[.string t308, .int .i64 t309, .slice Ao49 t310.length co49]] (by rfl) rfl rfl zb2_10 ?_
    with_reducible refine (laws_eqDialback.calls k t293 t294 _ _ t295 t308 t309 _ _ t310 true _ ?side1 ?side2 ?side3 ?side4 A16.out).mono ?_
    (case side1 => repeat (first | exact (Kd.R_reads' HO297.out).2.2 | (with_reducible refine Kd.C_alloc ?_ _) | (with_reducible refine Kd.C_drewN ?_ _) | (with_reducible refine Kd.C_drew ?_)))
    (case side2 => exact (Kd.R_reads' HO297.out).2.1)
    (case side3 => repeat (first | exact (Kd.R_reads' HO312.out).2.2 | (with_reducible refine Kd.C_alloc ?_ _) | (with_reducible refine Kd.C_drewN ?_ _) | (with_reducible refine Kd.C_drew ?_)))
    (case side4 => exact (Kd.R_reads' HO312.out).2.1)
    rintro e w50 ⟨rfl, hb⟩
    refine ⟨_, rfl, ?_⟩
    have n0_ := Aside0.mk (Kd.R_below zb5_10 hb)
    have n1_ := Aside0.mk (Kd.R_below zb6_10 hb)
    have n2_ := Aside0.mk (Kd.R_below zb10_10 hb)
    have n3_ := Aside0.mk (Kd.R_below zb16_10 hb)
    have n4_ := Aside0.mk (Kd.R_below (by (with_reducible repeat (first | apply Kd.R_alloc | apply Kd.R_drewN | apply Kd.R_drew)); exact HO312.out) hb)
    have n5_ := Aside0.mk (blk_below (g := gb278) (o := .cells #[.string a0_0, .int .i64 a0_1, .slice A0_2 l0_2.length c0_2] 35 (0, 0)) zb3_10 hb)
    have n6_ := Aside0.mk (blk_below (g := gb292) (o := .cells #[.string t285, .int .i64 t286, .slice Ao30 t287.length co30, .int .i64 t290, .int .i64 t291] 51 (0, 0)) zb11_10 hb)
    have n7_ := Aside0.mk (blk_below (g := gb298) (o := .cells #[.string t293, .int .i64 t294, .slice Ao37 t295.length co37] 40 (0, 0)) zb17_10 hb)
    have n8_ := Aside0.mk (blk_below (g := gb306) (o := .cells #[.string t299, .int .i64 t300, .slice Ao44 t301.length co44, .int .i64 t304, .int .i64 t305] 51 (0, 0)) zb19_10 hb)
    have n9_ := Aside0.mk (below_step zb18_10 hb)
    clear HO284
    clear HO289
    clear HO297
    clear HO303
    clear HO312
    clear BK278
    clear BK292
    clear BK298
    clear BK306
    clear HB
    have HO284 := n0_
    have HO289 := n1_
    have HO297 := n2_
    have HO303 := n3_
    have HO312 := n4_
    have BK278 := n5_
    have BK292 := n6_
    have BK298 := n7_
    have BK306 := n8_
    have HB := n9_
    clear n0_ n1_ n2_ n3_ n4_ n5_ n6_ n7_ n8_ n9_
    (try clear hb)
    (try clear hb2)
    (try clear hk)
    (try clear hi)
    refine hK.out _ _ ⟨(blk_cell BK298.out 0).trans rfl, (blk_cell BK298.out 1).trans rfl, (blk_cell BK298.out 2).trans rfl, (blk_cell BK278.out 0).trans rfl, (blk_cell BK278.out 1).trans rfl, (blk_cell BK278.out 2).trans rfl⟩ (fun hHeld => ?_)
    clear hK K
    refine norm_ (a' := ?_) ?_ ?_
    rotate_left
    ·
     show Act.put _ (some 38) _ = _
     simp only [Act.put, List.setIfInBounds_toArray, List.set_cons_zero, List.set_cons_succ, i64_w, i32_w]
     rfl
    refine pure_ (i := 4) (N := some 39) (v := ?_) (a' := ?_) #[true, true, true, true, true] rfl rfl (by kernel_rfl) (fun _ _ _ h => h) (Or.inl ⟨by rfl, ?_⟩) ?_ ?_
    rotate_left
    ·
     intro w'
     go_simp
     with_reducible rfl
    rotate_left
    ·
     simp only [Act.put, List.setIfInBounds_toArray, List.set_cons_zero, List.set_cons_succ, i64_w, i32_w]
     rfl
    refine done_ (by kernel_rfl) ?_
    have hcz51_0 : w50.cell? ⟨gb298, 0, none⟩ = some (.string t293) := (blk_cell BK298.out 0).trans rfl
    have hcz51_1 : w50.cell? ⟨gb298, 1, none⟩ = some (.int .i64 t294) := (blk_cell BK298.out 1).trans rfl
    have hcz51_2 : w50.cell? ⟨gb298, 2, none⟩ = some (.slice Ao37 t295.length co37) := (blk_cell BK298.out 2).trans rfl
    have hfz51_0 := blk_frozen BK298.out 0
    have hfz51_1 := blk_frozen BK298.out 1
    have hfz51_2 := blk_frozen BK298.out 2
    go_upto_region 14 with (first | ((with_reducible refine gate_callee (f := 29) rfl ?_); refine goesL_ (some 42) rfl rfl Tryd.func29 (by kernel_rfl) rfl #[.agg #[.string t293, .int .i64 t294, .slice Ao37 t295.length co37], .int .i64 1] rfl zb2_10 ?_; (with_reducible refine (laws_markDialback.calls k t293 t294 (fun k_ => some k_ = (.slice Ao37 t295.length co37 : Value).ownBlock) (.slice Ao37 t295.length co37) t295 1 t314 t315 w _ ?side1 ?side2 A18.out).mono ?_); (case side1 => repeat (first | (with_reducible first | exact HB.out | apply below_alloc | apply pw_below_drewN | apply below_drew1 | refine below_set ?_ GE278.out | refine below_set ?_ GE292.out | refine below_set ?_ GE298.out | refine below_set ?_ GE306.out) | exact HB.out)); (case side2 => exact Kd.R_tight rfl HO297.out); rintro e w52 ⟨rfl, hy0, hb, hkp⟩; refine ⟨_, rfl, ?_⟩; have n0_ := Aside0.mk (blk_kept zb3_10 hkp (fun hs_ => (fun e_ => (Kd.R_ne HO297.out BK278.out (by decide)) e_) hs_)); have n1_ := Aside0.mk (Kd.R_mono (ok' := fun k_ => some k_ ≠ (.slice Ao30 t287.length co30 : Value).ownBlock ∧ some k_ ≠ (.slice Ao37 t295.length co37 : Value).ownBlock ∧ some k_ ≠ (.slice Ao44 t301.length co44 : Value).ownBlock ∧ some k_ ≠ (.slice Ao49 t310.length co49 : Value).ownBlock) (Kd.R_keptB (HO284.out) hkp (fun k_ hk_ hs_ => (hk_.1.1.2) hs_)) (fun k_ hk_ => ⟨hk_.1.1.1.1.2, hk_.1.1.1.2, hk_.1.1.2, hk_.1.2⟩)); have n2_ := Aside0.mk (Kd.R_mono (ok' := fun k_ => some k_ ≠ (.slice Ao25 t282.length co25 : Value).ownBlock ∧ some k_ ≠ (.slice Ao37 t295.length co37 : Value).ownBlock ∧ some k_ ≠ (.slice Ao44 t301.length co44 : Value).ownBlock ∧ some k_ ≠ (.slice Ao49 t310.length co49 : Value).ownBlock) (Kd.R_keptB (HO289.out) hkp (fun k_ hk_ hs_ => (hk_.1.1.2) hs_)) (fun k_ hk_ => ⟨hk_.1.1.1.1.2, hk_.1.1.1.2, hk_.1.1.2, hk_.1.2⟩)); have n3_ := Aside0.mk (blk_kept zb11_10 hkp (fun hs_ => (fun e_ => (Kd.R_ne HO297.out BK292.out (by decide)) e_) hs_)); have n4_ := Aside0.mk (Kd.R_reok rfl hy0 (fun k_ e_ => HO297.out.1 k_ e_)); have n5_ := Aside0.mk (blk_kept zb17_10 hkp (fun hs_ => (fun e_ => (Kd.R_ne HO297.out BK298.out (by decide)) e_) hs_)); have n6_ := Aside0.mk (Kd.R_mono (ok' := fun k_ => some k_ ≠ (.slice Ao25 t282.length co25 : Value).ownBlock ∧ some k_ ≠ (.slice Ao30 t287.length co30 : Value).ownBlock ∧ some k_ ≠ (.slice Ao37 t295.length co37 : Value).ownBlock ∧ some k_ ≠ (.slice Ao49 t310.length co49 : Value).ownBlock) (Kd.R_keptB (HO303.out) hkp (fun k_ hk_ hs_ => (hk_.1.2) hs_)) (fun k_ hk_ => ⟨hk_.1.1.1.1.2, hk_.1.1.1.2, hk_.1.1.2, hk_.1.2⟩)); have n7_ := Aside0.mk (blk_kept zb19_10 hkp (fun hs_ => (fun e_ => (Kd.R_ne HO297.out BK306.out (by decide)) e_) hs_)); have n8_ := Aside0.mk (Kd.R_mono (ok' := fun k_ => some k_ ≠ (.slice Ao25 t282.length co25 : Value).ownBlock ∧ some k_ ≠ (.slice Ao30 t287.length co30 : Value).ownBlock ∧ some k_ ≠ (.slice Ao37 t295.length co37 : Value).ownBlock ∧ some k_ ≠ (.slice Ao44 t301.length co44 : Value).ownBlock) (Kd.R_keptB (HO312.out) hkp (fun k_ hk_ hs_ => (hk_.1.2) hs_)) (fun k_ hk_ => ⟨hk_.1.1.1.1.2, hk_.1.1.1.2, hk_.1.1.2, hk_.1.2⟩)); have n9_ := Aside0.mk (hb); clear BK278; clear HO284; clear HO289; clear BK292; clear HO297; clear BK298; clear HO303; clear BK306; clear HO312; clear HB; have BK278 := n0_; have HO284 := n1_; have HO289 := n2_; have BK292 := n3_; have HO297 := n4_; have BK298 := n5_; have HO303 := n6_; have BK306 := n7_; have HO312 := n8_; have HB := n9_; clear n0_ n1_ n2_ n3_ n4_ n5_ n6_ n7_ n8_ n9_; (try clear hb); (try clear hkp); (try clear hy0)))
    (try simp only [Act.put, List.setIfInBounds_toArray, List.set_cons_zero, List.set_cons_succ])
    go_cut [50] (fun v50 wc => ∃ (kq : Nat) (x50_18 : Bool), v50 = .bool x50_18 ∧ Aside0 (laws_FnExactDbVerified.j0 kq a1 a2 x50_18 a0_0 a0_1 l0_2 t285 t286 t287 t290 t291 t299 t300 t301 t304 t305 = some r) ∧ Aside0 (kq ≤ k) ∧ Aside0 (Kd.R k71 71 wc w.heap.size (fun k_ => some k_ ≠ ((.slice Ao37 t295.length co37) : Value).ownBlock ∧ some k_ ≠ ((.slice Ao44 t301.length co44) : Value).ownBlock) (.slice Ao30 t287.length co30) t287) ∧ Aside0 (Kd.R k71 71 wc w.heap.size (fun k_ => some k_ ≠ ((.slice Ao30 t287.length co30) : Value).ownBlock ∧ some k_ ≠ ((.slice Ao44 t301.length co44) : Value).ownBlock) (.slice Ao37 t295.length co37) t315) ∧ Aside0 (Kd.R k71 71 wc w.heap.size (fun k_ => some k_ ≠ ((.slice Ao30 t287.length co30) : Value).ownBlock ∧ some k_ ≠ ((.slice Ao37 t295.length co37) : Value).ownBlock) (.slice Ao44 t301.length co44) t301) ∧ Aside0 (wc.heap[gb278]? = some (.cells #[.string a0_0, .int .i64 a0_1, (.slice A0_2 l0_2.length c0_2)] 35 (0, 0))) ∧ Aside0 (wc.heap[gb292]? = some (.cells #[.string t285, .int .i64 t286, (.slice Ao30 t287.length co30), .int .i64 t290, .int .i64 t291] 51 (0, 0))) ∧ Aside0 (wc.heap[gb298]? = some (.cells #[.string t293, .int .i64 t294, (.slice Ao37 t295.length co37)] 40 (0, 0))) ∧ Aside0 (wc.heap[gb306]? = some (.cells #[.string t299, .int .i64 t300, (.slice Ao44 t301.length co44), .int .i64 t304, .int .i64 t305] 51 (0, 0))) ∧ Aside0 (Below w.heap.size w wc))
    case first =>
     have H := HC19.out
     clear HC19
     by_cases c53 : t314 < 0
     ·
      rw [if_pos c53] at H
      have c53b0 : decide (t314 < 0) = true := decide_eq_true c53
      clear c53
      (first | rw [c53b0] | (simp only [i64_w, i32_w]; rw [c53b0]) | skip)
      have H' := Aside0.mk H
      clear H
      go_wp2
      go_meet
      case rel => exact ⟨_, (true), (by first | rfl | (simp; done) | (simp [*]; done)), H', ⟨by first | omega | exact Nat.le_refl _⟩, ⟨by (with_reducible repeat (first | apply Kd.R_alloc | apply Kd.R_drewN | apply Kd.R_drew)); exact Kd.R_mono HO289.out (fun _ hk => ⟨hk.2.1, hk.2.2.1⟩)⟩, ⟨by (with_reducible repeat (first | apply Kd.R_alloc | apply Kd.R_drewN | apply Kd.R_drew)); exact Kd.R_mono HO297.out (fun _ hk => ⟨hk.1.1.2, hk.1.2⟩)⟩, ⟨by (with_reducible repeat (first | apply Kd.R_alloc | apply Kd.R_drewN | apply Kd.R_drew)); exact Kd.R_mono HO303.out (fun _ hk => ⟨hk.2.1, hk.2.2.1⟩)⟩, ⟨by (with_reducible repeat (first | refine blk_drewN ?_ _ | refine blk_drew ?_ | refine blk_alloc ?_ _)); exact BK278.out⟩, ⟨by (with_reducible repeat (first | refine blk_drewN ?_ _ | refine blk_drew ?_ | refine blk_alloc ?_ _)); exact BK292.out⟩, ⟨by (with_reducible repeat (first | refine blk_drewN ?_ _ | refine blk_drew ?_ | refine blk_alloc ?_ _)); exact BK298.out⟩, ⟨by (with_reducible repeat (first | refine blk_drewN ?_ _ | refine blk_drew ?_ | refine blk_alloc ?_ _)); exact BK306.out⟩, ⟨by repeat (first | (with_reducible first | exact HB.out | apply below_alloc | apply pw_below_drewN | apply below_drew1 | refine below_set ?_ GE278.out | refine below_set ?_ GE292.out | refine below_set ?_ GE298.out | refine below_set ?_ GE306.out) | exact HB.out)⟩⟩
     ·
      rw [if_neg c53] at H
      have c53b0 : decide (t314 < 0) = false := decide_eq_false c53
      clear c53
      (first | rw [c53b0] | (simp only [i64_w, i32_w]; rw [c53b0]) | skip)
      replace H := Option.bind_eq_some_iff.mp H
      obtain ⟨t316, A540, H⟩ := H
      replace H : (laws_FnExactDbVerified.j0 k a1 a2 (!t316) a0_0 a0_1 l0_2 t285 t286 t287 t290 t291 t299 t300 t301 t304 t305) = some r := H
      have A54 := Aside0.mk A540
      clear A540
      have H' := Aside0.mk H
      clear H
      have hnb55 := NB306_278.out
      have hnc55 := NB278_306.out
      have hnb56 := NB306_292.out
      have hnc56 := NB292_306.out
      have hnb57 := NB306_298.out
      have hnc57 := NB298_306.out
      have hcz58_0 : w52.cell? ⟨gb306, 0, none⟩ = some (.string t299) := (blk_cell BK306.out 0).trans rfl
      have hcz58_1 : w52.cell? ⟨gb306, 1, none⟩ = some (.int .i64 t300) := (blk_cell BK306.out 1).trans rfl
      have hcz58_2 : w52.cell? ⟨gb306, 2, none⟩ = some (.slice Ao44 t301.length co44) := (blk_cell BK306.out 2).trans rfl
      have hcz58_3 : w52.cell? ⟨gb306, 3, none⟩ = some (.int .i64 t304) := (blk_cell BK306.out 3).trans rfl
      have hcz58_4 : w52.cell? ⟨gb306, 4, none⟩ = some (.int .i64 t305) := (blk_cell BK306.out 4).trans rfl
      have hfz58_0 := blk_frozen BK306.out 0
      have hfz58_1 := blk_frozen BK306.out 1
      have hfz58_2 := blk_frozen BK306.out 2
      have hfz58_3 := blk_frozen BK306.out 3
      have hfz58_4 := blk_frozen BK306.out 4
      have hnb59 := NB292_278.out
      have hnc59 := NB278_292.out
      have hnb60 := NB292_298.out
      have hnc60 := NB298_292.out
      have hcz61_0 : w52.cell? ⟨gb292, 0, none⟩ = some (.string t285) := (blk_cell BK292.out 0).trans rfl
      have hcz61_1 : w52.cell? ⟨gb292, 1, none⟩ = some (.int .i64 t286) := (blk_cell BK292.out 1).trans rfl
      have hcz61_2 : w52.cell? ⟨gb292, 2, none⟩ = some (.slice Ao30 t287.length co30) := (blk_cell BK292.out 2).trans rfl
      have hcz61_3 : w52.cell? ⟨gb292, 3, none⟩ = some (.int .i64 t290) := (blk_cell BK292.out 3).trans rfl
      have hcz61_4 : w52.cell? ⟨gb292, 4, none⟩ = some (.int .i64 t291) := (blk_cell BK292.out 4).trans rfl
      have hfz61_0 := blk_frozen BK292.out 0
      have hfz61_1 := blk_frozen BK292.out 1
      have hfz61_2 := blk_frozen BK292.out 2
      have hfz61_3 := blk_frozen BK292.out 3
      have hfz61_4 := blk_frozen BK292.out 4
      go_wp2_with (first | (go_at_call 28; (with_reducible refine (laws_eqDialbackOut.calls k t299 t300 _ _ t301 t304 t305 t285 t286 _ _ t287 t290 t291 t316 _ ?side1 ?side2 ?side3 ?side4 A54.out).mono ?_); (case side1 => repeat (first | exact (Kd.R_reads' HO303.out).2.2 | (with_reducible refine Kd.C_alloc ?_ _) | (with_reducible refine Kd.C_drewN ?_ _) | (with_reducible refine Kd.C_drew ?_))); (case side2 => exact (Kd.R_reads' HO303.out).2.1); (case side3 => repeat (first | exact (Kd.R_reads' HO289.out).2.2 | (with_reducible refine Kd.C_alloc ?_ _) | (with_reducible refine Kd.C_drewN ?_ _) | (with_reducible refine Kd.C_drew ?_))); (case side4 => exact (Kd.R_reads' HO289.out).2.1); rintro e w62 ⟨rfl, hb⟩; have n0_ := Aside0.mk (Kd.R_below zb5_10 hb); have n1_ := Aside0.mk (Kd.R_below zb6_10 hb); have n2_ := Aside0.mk (Kd.R_below zb10_10 hb); have n3_ := Aside0.mk (Kd.R_below zb16_10 hb); have n4_ := Aside0.mk (Kd.R_below (by (with_reducible repeat (first | apply Kd.R_alloc | apply Kd.R_drewN | apply Kd.R_drew)); exact HO312.out) hb); have n5_ := Aside0.mk (blk_below (g := gb278) (o := .cells #[.string a0_0, .int .i64 a0_1, .slice A0_2 l0_2.length c0_2] 35 (0, 0)) zb3_10 hb); have n6_ := Aside0.mk (blk_below (g := gb292) (o := .cells #[.string t285, .int .i64 t286, .slice Ao30 t287.length co30, .int .i64 t290, .int .i64 t291] 51 (0, 0)) zb11_10 hb); have n7_ := Aside0.mk (blk_below (g := gb298) (o := .cells #[.string t293, .int .i64 t294, .slice Ao37 t295.length co37] 40 (0, 0)) zb17_10 hb); have n8_ := Aside0.mk (blk_below (g := gb306) (o := .cells #[.string t299, .int .i64 t300, .slice Ao44 t301.length co44, .int .i64 t304, .int .i64 t305] 51 (0, 0)) zb19_10 hb); have n9_ := Aside0.mk (below_step zb18_10 hb); clear HO284; clear HO289; clear HO297; clear HO303; clear HO312; clear BK278; clear BK292; clear BK298; clear BK306; clear HB; have HO284 := n0_; have HO289 := n1_; have HO297 := n2_; have HO303 := n3_; have HO312 := n4_; have BK278 := n5_; have BK292 := n6_; have BK298 := n7_; have BK306 := n8_; have HB := n9_; clear n0_ n1_ n2_ n3_ n4_ n5_ n6_ n7_ n8_ n9_; (try clear hb); (try clear hb2); (try clear hk); (try clear hi)))
      go_meet
      case rel => exact ⟨_, (!t316), (by first | rfl | (simp; done) | (simp [*]; done)), H', ⟨by first | omega | exact Nat.le_refl _⟩, ⟨by (with_reducible repeat (first | apply Kd.R_alloc | apply Kd.R_drewN | apply Kd.R_drew)); exact Kd.R_mono HO289.out (fun _ hk => ⟨hk.2.1, hk.2.2.1⟩)⟩, ⟨by (with_reducible repeat (first | apply Kd.R_alloc | apply Kd.R_drewN | apply Kd.R_drew)); exact Kd.R_mono HO297.out (fun _ hk => ⟨hk.1.1.2, hk.1.2⟩)⟩, ⟨by (with_reducible repeat (first | apply Kd.R_alloc | apply Kd.R_drewN | apply Kd.R_drew)); exact Kd.R_mono HO303.out (fun _ hk => ⟨hk.2.1, hk.2.2.1⟩)⟩, ⟨by (with_reducible repeat (first | refine blk_drewN ?_ _ | refine blk_drew ?_ | refine blk_alloc ?_ _)); exact BK278.out⟩, ⟨by (with_reducible repeat (first | refine blk_drewN ?_ _ | refine blk_drew ?_ | refine blk_alloc ?_ _)); exact BK292.out⟩, ⟨by (with_reducible repeat (first | refine blk_drewN ?_ _ | refine blk_drew ?_ | refine blk_alloc ?_ _)); exact BK298.out⟩, ⟨by (with_reducible repeat (first | refine blk_drewN ?_ _ | refine blk_drew ?_ | refine blk_alloc ?_ _)); exact BK306.out⟩, ⟨by repeat (first | (with_reducible first | exact HB.out | apply below_alloc | apply pw_below_drewN | apply below_drew1 | refine below_set ?_ GE278.out | refine below_set ?_ GE292.out | refine below_set ?_ GE298.out | refine below_set ?_ GE306.out) | exact HB.out)⟩⟩
    case rest =>
     clear HC19
     try clear c1
     try clear c2
     try clear p2
     try clear c3
     try clear c4
     try clear c5
     try clear c5b0
     try clear c6
     try clear c8
     try clear c14
     try clear c15
     try clear c17
     try clear c19
     try clear c28
     try clear c29
     try clear c32
     try clear c33
     try clear c34
     try clear c35
     try clear c40
     try clear c41
     try clear c42
     try clear c53
     try clear c53b0
     try clear c55
     try clear c56
     try clear c57
     try clear c59
     try clear c60
     try clear hcz21_0
     try clear hcz21_1
     try clear hcz21_2
     try clear hcz23_0
     try clear hcz23_1
     try clear hcz23_2
     try clear hcz29_0
     try clear hcz29_1
     try clear hcz29_2
     try clear hcz29_3
     try clear hcz29_4
     try clear hcz31_0
     try clear hcz31_1
     try clear hcz31_2
     try clear hcz36_0
     try clear hcz36_1
     try clear hcz36_2
     try clear hcz43_0
     try clear hcz43_1
     try clear hcz43_2
     try clear hcz43_3
     try clear hcz43_4
     try clear hcz45_0
     try clear hcz45_1
     try clear hcz45_2
     try clear hcz45_3
     try clear hcz45_4
     try clear hcz51_0
     try clear hcz51_1
     try clear hcz51_2
     try clear hcz58_0
     try clear hcz58_1
     try clear hcz58_2
     try clear hcz58_3
     try clear hcz58_4
     try clear hcz61_0
     try clear hcz61_1
     try clear hcz61_2
     try clear hcz61_3
     try clear hcz61_4
     try clear hcz7_0
     try clear hcz7_1
     try clear hcz7_2
     try clear hfz21_0
     try clear hfz21_1
     try clear hfz21_2
     try clear hfz23_0
     try clear hfz23_1
     try clear hfz23_2
     try clear hfz29_0
     try clear hfz29_1
     try clear hfz29_2
     try clear hfz29_3
     try clear hfz29_4
     try clear hfz31_0
     try clear hfz31_1
     try clear hfz31_2
     try clear hfz36_0
     try clear hfz36_1
     try clear hfz36_2
     try clear hfz43_0
     try clear hfz43_1
     try clear hfz43_2
     try clear hfz43_3
     try clear hfz43_4
     try clear hfz45_0
     try clear hfz45_1
     try clear hfz45_2
     try clear hfz45_3
     try clear hfz45_4
     try clear hfz51_0
     try clear hfz51_1
     try clear hfz51_2
     try clear hfz58_0
     try clear hfz58_1
     try clear hfz58_2
     try clear hfz58_3
     try clear hfz58_4
     try clear hfz61_0
     try clear hfz61_1
     try clear hfz61_2
     try clear hfz61_3
     try clear hfz61_4
     try clear hfz7_0
     try clear hfz7_1
     try clear hfz7_2
     obtain ⟨kq, x50_18, rfl, HA, HJ18, HO_293002, HO_299002, HO_307002, BK278, BK292, BK298, BK306, HB⟩ := hcut
     have hl299002_18 := (Kd.R_reads' HO_299002.out).1
     rw [hl299002_18] at HO_299002
     (try simp only [hl299002_18])
     (try simp only [hl299002_18] at BK278)
     (try simp only [hl299002_18] at BK292)
     (try simp only [hl299002_18] at BK298)
     (try simp only [hl299002_18] at BK306)
     (try simp only [hl299002_18] at HO_293002)
     (try simp only [hl299002_18] at HO_307002)
     cases kq with
     | zero => exact absurd HA.out (by simp [laws_FnExactDbVerified.j0])
     | succ kj18 =>
      have H := HA.out
      clear HA
      simp only [laws_FnExactDbVerified.j0] at H
      by_cases c63 : x50_18 = true
      ·
       subst c63
       have H1 : (some false) = some r := by rw [if_pos rfl] at H; exact H
       clear H
       have H := H1
       clear H1
       exact absurd ((Option.some.inj H).trans hrt.out) (by decide)
      ·
       replace c63 := Bool.eq_false_iff.mpr c63
       subst c63
       have H1 : ((laws_markDialbackOut.f kj18 t299 t300 t301 t304 t305 1).bind fun bt317 => ((laws_heldDialbackOut.f kj18 t299 t300 bt317.2 t304 t305 1).bind fun t319 => (if t319 < 0 then (some false) else (if t319 = bt317.1 then ((laws_toDialback.f kj18 a0_0 a0_1 l0_2).bind fun bt320 => ((impl_DbVerified.f kj18 bt320.1 bt320.2.1 bt320.2.2 a1 a2).bind fun bt325 => ((laws_eqDialbackOut.f kj18 bt325.1 bt325.2.1 bt325.2.2.1 bt325.2.2.2.1 bt325.2.2.2.2 t285 t286 t287 t290 t291).bind fun t333 => (if t333 = true then ((laws_heldDialbackOut.f kj18 t299 t300 bt317.2 t304 t305 1).bind fun t334 => (if t334 < 0 then (some false) else (if t334 = bt317.1 then (some true) else (some false)))) else (some false))))) else (some false))))) = some r := by rw [if_neg (show ¬ (false = true) by decide)] at H; exact H
       clear H
       have H := H1
       clear H1
       replace H := Option.bind_eq_some_iff.mp H
       obtain ⟨⟨t317, t318⟩, A640, H⟩ := H
       replace H : ((laws_heldDialbackOut.f kj18 t299 t300 t318 t304 t305 1).bind fun t319 => (if t319 < 0 then (some false) else (if t319 = t317 then ((laws_toDialback.f kj18 a0_0 a0_1 l0_2).bind fun bt320 => ((impl_DbVerified.f kj18 bt320.1 bt320.2.1 bt320.2.2 a1 a2).bind fun bt325 => ((laws_eqDialbackOut.f kj18 bt325.1 bt325.2.1 bt325.2.2.1 bt325.2.2.2.1 bt325.2.2.2.2 t285 t286 t287 t290 t291).bind fun t333 => (if t333 = true then ((laws_heldDialbackOut.f kj18 t299 t300 t318 t304 t305 1).bind fun t334 => (if t334 < 0 then (some false) else (if t334 = t317 then (some true) else (some false)))) else (some false))))) else (some false)))) = some r := H
       have A64 := Aside0.mk A640
       clear A640
       replace H := Option.bind_eq_some_iff.mp H
       obtain ⟨t319, A650, H⟩ := H
       replace H : (if t319 < 0 then (some false) else (if t319 = t317 then ((laws_toDialback.f kj18 a0_0 a0_1 l0_2).bind fun bt320 => ((impl_DbVerified.f kj18 bt320.1 bt320.2.1 bt320.2.2 a1 a2).bind fun bt325 => ((laws_eqDialbackOut.f kj18 bt325.1 bt325.2.1 bt325.2.2.1 bt325.2.2.2.1 bt325.2.2.2.2 t285 t286 t287 t290 t291).bind fun t333 => (if t333 = true then ((laws_heldDialbackOut.f kj18 t299 t300 t318 t304 t305 1).bind fun t334 => (if t334 < 0 then (some false) else (if t334 = t317 then (some true) else (some false)))) else (some false))))) else (some false))) = some r := H
       have A65 := Aside0.mk A650
       clear A650
       by_cases c66 : t319 < 0
       ·
        rw [if_pos c66] at H
        have c66b0 : decide (t319 < 0) = true := decide_eq_true c66
        clear c66
        exact absurd ((Option.some.inj H).trans hrt.out) (by decide)
       ·
        rw [if_neg c66] at H
        have c66b0 : decide (t319 < 0) = false := decide_eq_false c66
        clear c66
        by_cases c67 : t319 = t317
        ·
         rw [if_pos c67] at H
         have c67b0 : (t319 == t317) = true := beq_iff_eq.mpr c67
         have c67b1 : (t319 != t317) = false := bne_eq_false_iff_eq.mpr c67
         clear c67
         replace H := Option.bind_eq_some_iff.mp H
         obtain ⟨⟨t320, t321, t322⟩, A680, H⟩ := H
         replace H : ((impl_DbVerified.f kj18 t320 t321 t322 a1 a2).bind fun bt325 => ((laws_eqDialbackOut.f kj18 bt325.1 bt325.2.1 bt325.2.2.1 bt325.2.2.2.1 bt325.2.2.2.2 t285 t286 t287 t290 t291).bind fun t333 => (if t333 = true then ((laws_heldDialbackOut.f kj18 t299 t300 t318 t304 t305 1).bind fun t334 => (if t334 < 0 then (some false) else (if t334 = t317 then (some true) else (some false)))) else (some false)))) = some r := H
         have A68 := Aside0.mk A680
         clear A680
         replace H := Option.bind_eq_some_iff.mp H
         obtain ⟨⟨t325, t326, t327, t330, t331⟩, A690, H⟩ := H
         replace H : ((laws_eqDialbackOut.f kj18 t325 t326 t327 t330 t331 t285 t286 t287 t290 t291).bind fun t333 => (if t333 = true then ((laws_heldDialbackOut.f kj18 t299 t300 t318 t304 t305 1).bind fun t334 => (if t334 < 0 then (some false) else (if t334 = t317 then (some true) else (some false)))) else (some false))) = some r := H
         have A69 := Aside0.mk A690
         clear A690
         replace H := Option.bind_eq_some_iff.mp H
         obtain ⟨t333, A700, H⟩ := H
         replace H : (if t333 = true then ((laws_heldDialbackOut.f kj18 t299 t300 t318 t304 t305 1).bind fun t334 => (if t334 < 0 then (some false) else (if t334 = t317 then (some true) else (some false)))) else (some false)) = some r := H
         have A70 := Aside0.mk A700
         clear A700
         by_cases c71 : t333 = true
         ·
          subst c71
          have H1 : ((laws_heldDialbackOut.f kj18 t299 t300 t318 t304 t305 1).bind fun t334 => (if t334 < 0 then (some false) else (if t334 = t317 then (some true) else (some false)))) = some r := by rw [if_pos rfl] at H; exact H
          clear H
          have H := H1
          clear H1
          replace H := Option.bind_eq_some_iff.mp H
          obtain ⟨t334, A720, H⟩ := H
          replace H : (if t334 < 0 then (some false) else (if t334 = t317 then (some true) else (some false))) = some r := H
          have A72 := Aside0.mk A720
          clear A720
          by_cases c73 : t334 < 0
          ·
           rw [if_pos c73] at H
           have c73b0 : decide (t334 < 0) = true := decide_eq_true c73
           clear c73
           exact absurd ((Option.some.inj H).trans hrt.out) (by decide)
          ·
           rw [if_neg c73] at H
           have c73b0 : decide (t334 < 0) = false := decide_eq_false c73
           clear c73
           by_cases c74 : t334 = t317
           ·
            rw [if_pos c74] at H
            have c74b0 : (t334 == t317) = true := beq_iff_eq.mpr c74
            have c74b1 : (t334 != t317) = false := bne_eq_false_iff_eq.mpr c74
            clear c74
            obtain rfl := Option.some.inj H
            have hnb75 := NB306_278.out
            have hnc75 := NB278_306.out
            have hnb76 := NB306_292.out
            have hnc76 := NB292_306.out
            have hnb77 := NB306_298.out
            have hnc77 := NB298_306.out
            have hcz78_0 : wc.cell? ⟨gb306, 0, none⟩ = some (.string t299) := (blk_cell BK306.out 0).trans rfl
            have hcz78_1 : wc.cell? ⟨gb306, 1, none⟩ = some (.int .i64 t300) := (blk_cell BK306.out 1).trans rfl
            have hcz78_2 : wc.cell? ⟨gb306, 2, none⟩ = some (.slice Ao44 t301.length co44) := (blk_cell BK306.out 2).trans rfl
            have hcz78_3 : wc.cell? ⟨gb306, 3, none⟩ = some (.int .i64 t304) := (blk_cell BK306.out 3).trans rfl
            have hcz78_4 : wc.cell? ⟨gb306, 4, none⟩ = some (.int .i64 t305) := (blk_cell BK306.out 4).trans rfl
            have hfz78_0 := blk_frozen BK306.out 0
            have hfz78_1 := blk_frozen BK306.out 1
            have hfz78_2 := blk_frozen BK306.out 2
            have hfz78_3 := blk_frozen BK306.out 3
            have hfz78_4 := blk_frozen BK306.out 4
            go_wp2_with (first | ((with_reducible refine gate_callee (f := 30) rfl ?_); refine goesL_ (some 53) rfl rfl Tryd.func30 (by kernel_rfl) rfl #[.agg #[.string t299, .int .i64 t300, .slice Ao44 t301.length co44, .int .i64 t304, .int .i64 t305], .int .i64 1] rfl zb2_10 ?_; (with_reducible refine (laws_markDialbackOut.calls kj18 t299 t300 (fun k_ => some k_ = (.slice Ao44 t301.length co44 : Value).ownBlock) (.slice Ao44 t301.length co44) t301 t304 t305 1 t317 t318 w _ ?side1 ?side2 A64.out).mono ?_); (case side1 => repeat (first | (with_reducible first | exact HB.out | apply below_alloc | apply pw_below_drewN | apply below_drew1 | refine below_set ?_ GE278.out | refine below_set ?_ GE292.out | refine below_set ?_ GE298.out | refine below_set ?_ GE306.out) | exact HB.out)); (case side2 => exact Kd.R_tight rfl HO_307002.out); rintro e w79 ⟨rfl, hy0, hb, hkp⟩; refine ⟨_, rfl, ?_⟩; have n0_ := Aside0.mk (Kd.R_mono (ok' := fun k_ => some k_ ≠ (.slice Ao37 t315.length co37 : Value).ownBlock ∧ some k_ ≠ (.slice Ao44 t301.length co44 : Value).ownBlock) (Kd.R_keptB (HO_293002.out) hkp (fun k_ hk_ hs_ => (hk_.2) hs_)) (fun k_ hk_ => ⟨hk_.1.1, hk_.1.2⟩)); have n1_ := Aside0.mk (Kd.R_mono (ok' := fun k_ => some k_ ≠ (.slice Ao30 t287.length co30 : Value).ownBlock ∧ some k_ ≠ (.slice Ao44 t301.length co44 : Value).ownBlock) (Kd.R_keptB (HO_299002.out) hkp (fun k_ hk_ hs_ => (hk_.2) hs_)) (fun k_ hk_ => ⟨hk_.1.1, hk_.1.2⟩)); have n2_ := Aside0.mk (Kd.R_reok rfl hy0 (fun k_ e_ => HO_307002.out.1 k_ e_)); have n3_ := Aside0.mk (blk_kept zb3_10 hkp (fun hs_ => (fun e_ => (Kd.R_ne HO_307002.out BK278.out (by decide)) e_) hs_)); have n4_ := Aside0.mk (blk_kept zb11_10 hkp (fun hs_ => (fun e_ => (Kd.R_ne HO_307002.out BK292.out (by decide)) e_) hs_)); have n5_ := Aside0.mk (blk_kept zb17_10 hkp (fun hs_ => (fun e_ => (Kd.R_ne HO_307002.out BK298.out (by decide)) e_) hs_)); have n6_ := Aside0.mk (blk_kept zb19_10 hkp (fun hs_ => (fun e_ => (Kd.R_ne HO_307002.out BK306.out (by decide)) e_) hs_)); have n7_ := Aside0.mk (hb); clear HO_293002; clear HO_299002; clear HO_307002; clear BK278; clear BK292; clear BK298; clear BK306; clear HB; have HO_293002 := n0_; have HO_299002 := n1_; have HO_307002 := n2_; have BK278 := n3_; have BK292 := n4_; have BK298 := n5_; have BK306 := n6_; have HB := n7_; clear n0_ n1_ n2_ n3_ n4_ n5_ n6_ n7_; (try clear hb); (try clear hkp); (try clear hy0); have hcz80_0 : w79.cell? ⟨gb306, 0, none⟩ = some (.string t299) := (blk_cell BK306.out 0).trans rfl; have hcz80_1 : w79.cell? ⟨gb306, 1, none⟩ = some (.int .i64 t300) := (blk_cell BK306.out 1).trans rfl; have hcz80_2 : w79.cell? ⟨gb306, 2, none⟩ = some (.slice Ao44 t301.length co44) := (blk_cell BK306.out 2).trans rfl; have hcz80_3 : w79.cell? ⟨gb306, 3, none⟩ = some (.int .i64 t304) := (blk_cell BK306.out 3).trans rfl; have hcz80_4 : w79.cell? ⟨gb306, 4, none⟩ = some (.int .i64 t305) := (blk_cell BK306.out 4).trans rfl; have hfz80_0 := blk_frozen BK306.out 0; have hfz80_1 := blk_frozen BK306.out 1; have hfz80_2 := blk_frozen BK306.out 2; have hfz80_3 := blk_frozen BK306.out 3; have hfz80_4 := blk_frozen BK306.out 4) | ((with_reducible refine gate_callee (f := 31) rfl ?_); refine goesL_ (some 56) rfl rfl Tryd.func31 (by kernel_rfl) rfl #[.agg #[.string t299, .int .i64 t300, .slice Ao44 t318.length co44, .int .i64 t304, .int .i64 t305], .int .i64 1] rfl (by (try simp only [List.map_toArray, List.map_cons, List.map_nil]); first | done | (rw [show t318.length = t301.length from (Kd.R_reads' HO_307002.out).1.symm] <;> rfl) | rfl | (simp only [List.length_drop, List.length_take]; rfl)) ?_; (with_reducible refine (laws_heldDialbackOut.calls kj18 t299 t300 _ _ t318 t304 t305 1 t319 _ ?side1 ?side2 A65.out).mono ?_); (case side1 => repeat (first | exact (Kd.R_reads' HO_307002.out).2.2 | (with_reducible refine Kd.C_alloc ?_ _) | (with_reducible refine Kd.C_drewN ?_ _) | (with_reducible refine Kd.C_drew ?_))); (case side2 => rw [show t318.length = t301.length from (Kd.R_reads' HO_307002.out).1.symm]; exact (Kd.R_reads' HO_307002.out).2.1); rintro e w81 ⟨rfl, hb⟩; refine ⟨_, rfl, ?_⟩; have n0_ := Aside0.mk (Kd.R_below zb20_10 hb); have n1_ := Aside0.mk (Kd.R_below zb21_10 hb); have n2_ := Aside0.mk (Kd.R_below zb22_10 hb); have n3_ := Aside0.mk (blk_below (g := gb278) (o := .cells #[.string a0_0, .int .i64 a0_1, .slice A0_2 l0_2.length c0_2] 35 (0, 0)) zb3_10 hb); have n4_ := Aside0.mk (blk_below (g := gb292) (o := .cells #[.string t285, .int .i64 t286, .slice Ao30 t287.length co30, .int .i64 t290, .int .i64 t291] 51 (0, 0)) zb11_10 hb); have n5_ := Aside0.mk (blk_below (g := gb298) (o := .cells #[.string t293, .int .i64 t294, .slice Ao37 t315.length co37] 40 (0, 0)) zb17_10 hb); have n6_ := Aside0.mk (blk_below (g := gb306) (o := .cells #[.string t299, .int .i64 t300, .slice Ao44 t301.length co44, .int .i64 t304, .int .i64 t305] 51 (0, 0)) zb19_10 hb); have n7_ := Aside0.mk (below_step zb18_10 hb); clear HO_293002; clear HO_299002; clear HO_307002; clear BK278; clear BK292; clear BK298; clear BK306; clear HB; have HO_293002 := n0_; have HO_299002 := n1_; have HO_307002 := n2_; have BK278 := n3_; have BK292 := n4_; have BK298 := n5_; have BK306 := n6_; have HB := n7_; clear n0_ n1_ n2_ n3_ n4_ n5_ n6_ n7_; (try clear hb); (try clear hb2); (try clear hk); (try clear hi); have hnb82 := NB278_292.out; have hnc82 := NB292_278.out; have hnb83 := NB278_298.out; have hnc83 := NB298_278.out; have hcz84_0 : w81.cell? ⟨gb278, 0, none⟩ = some (.string a0_0) := (blk_cell BK278.out 0).trans rfl; have hcz84_1 : w81.cell? ⟨gb278, 1, none⟩ = some (.int .i64 a0_1) := (blk_cell BK278.out 1).trans rfl; have hcz84_2 : w81.cell? ⟨gb278, 2, none⟩ = some (.slice A0_2 l0_2.length c0_2) := (blk_cell BK278.out 2).trans rfl; have hfz84_0 := blk_frozen BK278.out 0; have hfz84_1 := blk_frozen BK278.out 1; have hfz84_2 := blk_frozen BK278.out 2) | ((with_reducible refine gate_callee (f := 17) rfl ?_); refine goesL_ (some 63) rfl rfl Tryd.func17 (by kernel_rfl) rfl #[.agg #[.string a0_0, .int .i64 a0_1, .slice A0_2 l0_2.length c0_2]] rfl zb2_10 ?_; (with_reducible refine (laws_toDialback.calls kj18 a0_0 a0_1 _ _ l0_2 t320 t321 t322 _ ?side1 ?side2 A68.out).mono ?_); (case side1 => repeat (first | exact (Kd.C_below HR0_2.out HB.out) | (with_reducible refine Kd.C_alloc ?_ _) | (with_reducible refine Kd.C_drewN ?_ _) | (with_reducible refine Kd.C_drew ?_))); (case side2 => exact HC0_2.out); rintro e w85 ⟨v323, rfl, ho0, hb⟩; refine ⟨_, rfl, ?_⟩; have n0_ := Aside0.mk (Kd.R_elder' zb20_10 (Kd.R_base ho0) hb); have n1_ := Aside0.mk (Kd.R_elder' zb21_10 (Kd.R_base ho0) hb); have n2_ := Aside0.mk (Kd.R_elder' zb22_10 (Kd.R_base ho0) hb); have n3_ := Aside0.mk (Kd.R_lower (Kd.R_new' (Kd.R_new' (Kd.R_new' ho0 (Kd.R_lt zb20_10)) (Kd.R_lt zb21_10)) (Kd.R_lt zb22_10)) (below_size zb18_10)); have n4_ := Aside0.mk (blk_below (g := gb278) (o := .cells #[.string a0_0, .int .i64 a0_1, .slice A0_2 l0_2.length c0_2] 35 (0, 0)) zb3_10 hb); have n5_ := Aside0.mk (blk_below (g := gb292) (o := .cells #[.string t285, .int .i64 t286, .slice Ao30 t287.length co30, .int .i64 t290, .int .i64 t291] 51 (0, 0)) zb11_10 hb); have n6_ := Aside0.mk (blk_below (g := gb298) (o := .cells #[.string t293, .int .i64 t294, .slice Ao37 t315.length co37] 40 (0, 0)) zb17_10 hb); have n7_ := Aside0.mk (blk_below (g := gb306) (o := .cells #[.string t299, .int .i64 t300, .slice Ao44 t301.length co44, .int .i64 t304, .int .i64 t305] 51 (0, 0)) zb19_10 hb); have n8_ := Aside0.mk (below_step zb18_10 hb); clear HO_293002; clear HO_299002; clear HO_307002; clear BK278; clear BK292; clear BK298; clear BK306; clear HB; have HO_293002 := n0_; have HO_299002 := n1_; have HO_307002 := n2_; have HO324 := n3_; have BK278 := n4_; have BK292 := n5_; have BK298 := n6_; have BK306 := n7_; have HB := n8_; clear n0_ n1_ n2_ n3_ n4_ n5_ n6_ n7_ n8_; (try clear hb); (try clear hb2); (try clear hk); (try clear hi); (try clear ho0); obtain ⟨Ao86, co86, eo86⟩ := Kd.R_slice HO324.out; subst eo86) | ((with_reducible refine gate_callee (f := 33) rfl ?_); refine goesL_ (some 66) rfl rfl Tryd.func33 (by kernel_rfl) rfl #[.agg #[.string t320, .int .i64 t321, .slice Ao86 t322.length co86], .int .i64 a1, .bool a2] rfl zb2_10 ?_; (with_reducible refine (impl_DbVerified.calls kj18 t320 t321 _ _ t322 a1 a2 t325 t326 t327 t330 t331 _ ?side1 ?side2 A69.out (by first | exact hmx | exact hmx.below HB.out | exact hmx.below (by repeat (first | (with_reducible first | exact HB.out | apply below_alloc | apply pw_below_drewN | apply below_drew1 | refine below_set ?_ GE278.out | refine below_set ?_ GE292.out | refine below_set ?_ GE298.out | refine below_set ?_ GE306.out | refine below_set ?_ GE332.out | exact Below.refl _ _) | exact HB.out | exact Below.refl _ _)))).mono ?_); (case side1 => repeat (first | exact (Kd.R_reads' HO324.out).2.2 | (with_reducible refine Kd.C_alloc ?_ _) | (with_reducible refine Kd.C_drewN ?_ _) | (with_reducible refine Kd.C_drew ?_))); (case side2 => exact (Kd.R_reads' HO324.out).2.1); rintro e w87 ⟨v328, rfl, ho0, hb⟩; refine ⟨_, rfl, ?_⟩; have n0_ := Aside0.mk (Kd.R_elder' zb20_10 (Kd.R_base ho0) hb); have n1_ := Aside0.mk (Kd.R_elder' zb21_10 (Kd.R_base ho0) hb); have n2_ := Aside0.mk (Kd.R_elder' zb22_10 (Kd.R_base ho0) hb); have n3_ := Aside0.mk (Kd.R_elder' zb23_10 (Kd.R_base ho0) hb); have n4_ := Aside0.mk (Kd.R_lower (Kd.R_new' (Kd.R_new' (Kd.R_new' (Kd.R_new' ho0 (Kd.R_lt zb20_10)) (Kd.R_lt zb21_10)) (Kd.R_lt zb22_10)) (Kd.R_lt zb23_10)) (below_size zb18_10)); have n5_ := Aside0.mk (blk_below (g := gb278) (o := .cells #[.string a0_0, .int .i64 a0_1, .slice A0_2 l0_2.length c0_2] 35 (0, 0)) zb3_10 hb); have n6_ := Aside0.mk (blk_below (g := gb292) (o := .cells #[.string t285, .int .i64 t286, .slice Ao30 t287.length co30, .int .i64 t290, .int .i64 t291] 51 (0, 0)) zb11_10 hb); have n7_ := Aside0.mk (blk_below (g := gb298) (o := .cells #[.string t293, .int .i64 t294, .slice Ao37 t315.length co37] 40 (0, 0)) zb17_10 hb); have n8_ := Aside0.mk (blk_below (g := gb306) (o := .cells #[.string t299, .int .i64 t300, .slice Ao44 t301.length co44, .int .i64 t304, .int .i64 t305] 51 (0, 0)) zb19_10 hb); have n9_ := Aside0.mk (below_step zb18_10 hb); clear HO_293002; clear HO_299002; clear HO_307002; clear HO324; clear BK278; clear BK292; clear BK298; clear BK306; clear HB; have HO_293002 := n0_; have HO_299002 := n1_; have HO_307002 := n2_; have HO324 := n3_; have HO329 := n4_; have BK278 := n5_; have BK292 := n6_; have BK298 := n7_; have BK306 := n8_; have HB := n9_; clear n0_ n1_ n2_ n3_ n4_ n5_ n6_ n7_ n8_ n9_; (try clear hb); (try clear hb2); (try clear hk); (try clear hi); (try clear ho0)) | ((with_reducible refine gate_dst (N := 14) rfl ?_); refine box_event ?hg (N := 14) ?hd (cs := #[.string (⟨#[]⟩ : ByteArray), .int .i64 0, .slice none 0 0, .int .i64 0, .int .i64 0]) (t := 51) ?hr ?_; (case hd => rfl); (case hg => rfl); (case hr => first | (go_simp; done) | (go_simp; rfl)); intro gb332 hg w88 hbox hb; have n0_ := Aside0.mk (Kd.R_below zb20_10 hb); have n1_ := Aside0.mk (Kd.R_below zb21_10 hb); have n2_ := Aside0.mk (Kd.R_below zb22_10 hb); have n3_ := Aside0.mk (Kd.R_below zb23_10 hb); have n4_ := Aside0.mk (Kd.R_below (by (with_reducible repeat (first | apply Kd.R_alloc | apply Kd.R_drewN | apply Kd.R_drew)); exact HO329.out) hb); have n5_ := Aside0.mk (blk_below (g := gb278) (o := .cells #[.string a0_0, .int .i64 a0_1, .slice A0_2 l0_2.length c0_2] 35 (0, 0)) zb3_10 hb); have n6_ := Aside0.mk (blk_below (g := gb292) (o := .cells #[.string t285, .int .i64 t286, .slice Ao30 t287.length co30, .int .i64 t290, .int .i64 t291] 51 (0, 0)) zb11_10 hb); have n7_ := Aside0.mk (blk_below (g := gb298) (o := .cells #[.string t293, .int .i64 t294, .slice Ao37 t315.length co37] 40 (0, 0)) zb17_10 hb); have n8_ := Aside0.mk (blk_below (g := gb306) (o := .cells #[.string t299, .int .i64 t300, .slice Ao44 t301.length co44, .int .i64 t304, .int .i64 t305] 51 (0, 0)) zb19_10 hb); have n9_ := Aside0.mk (below_step zb18_10 hb); have n10_ := Aside0.mk (hbox); have n11_ := Aside0.mk ((by rw [hg]; exact (below_size zb18_10) : w.heap.size ≤ gb332)); have n12_ := Aside0.mk ((by rw [hg]; exact (below_size zb18_10) : w.heap.size ≤ gb332)); have n13_ := Aside0.mk ((zb7_10 : gb278 ≠ gb332)); have n14_ := Aside0.mk ((zb8_10 : gb332 ≠ gb278)); have n15_ := Aside0.mk ((zb12_10 : gb292 ≠ gb332)); have n16_ := Aside0.mk ((zb13_10 : gb332 ≠ gb292)); have n17_ := Aside0.mk ((by rw [hg]; exact Nat.ne_of_lt (blk_lt (g := gb298) (o := .cells #[.string t293, .int .i64 t294, .slice Ao37 t315.length co37] 40 (0, 0)) zb17_10) : gb298 ≠ gb332)); have n18_ := Aside0.mk ((by rw [hg]; exact Nat.ne_of_gt (blk_lt (g := gb298) (o := .cells #[.string t293, .int .i64 t294, .slice Ao37 t315.length co37] 40 (0, 0)) zb17_10) : gb332 ≠ gb298)); have n19_ := Aside0.mk ((by rw [hg]; exact Nat.ne_of_lt (blk_lt (g := gb306) (o := .cells #[.string t299, .int .i64 t300, .slice Ao44 t301.length co44, .int .i64 t304, .int .i64 t305] 51 (0, 0)) zb19_10) : gb306 ≠ gb332)); have n20_ := Aside0.mk ((by rw [hg]; exact Nat.ne_of_gt (blk_lt (g := gb306) (o := .cells #[.string t299, .int .i64 t300, .slice Ao44 t301.length co44, .int .i64 t304, .int .i64 t305] 51 (0, 0)) zb19_10) : gb332 ≠ gb306)); clear HO_293002; clear HO_299002; clear HO_307002; clear HO324; clear HO329; clear BK278; clear BK292; clear BK298; clear BK306; clear HB; have HO_293002 := n0_; have HO_299002 := n1_; have HO_307002 := n2_; have HO324 := n3_; have HO329 := n4_; have BK278 := n5_; have BK292 := n6_; have BK298 := n7_; have BK306 := n8_; have HB := n9_; have BK332 := n10_; have GW332 := n11_; have GE332 := n12_; have NB278_332 := n13_; have NB332_278 := n14_; have NB292_332 := n15_; have NB332_292 := n16_; have NB298_332 := n17_; have NB332_298 := n18_; have NB306_332 := n19_; have NB332_306 := n20_; clear n0_ n1_ n2_ n3_ n4_ n5_ n6_ n7_ n8_ n9_ n10_ n11_ n12_ n13_ n14_ n15_ n16_ n17_ n18_ n19_ n20_; clear hb hbox hg; have hnb89 := NB332_278.out; have hnc89 := NB278_332.out; have hnb90 := NB332_292.out; have hnc90 := NB292_332.out; have hnb91 := NB332_298.out; have hnc91 := NB298_332.out; have hnb92 := NB332_306.out; have hnc92 := NB306_332.out; have hcz93_0 : w88.cell? ⟨gb332, 0, none⟩ = some (.string (⟨#[]⟩ : ByteArray)) := (blk_cell BK332.out 0).trans rfl; have hcz93_1 : w88.cell? ⟨gb332, 1, none⟩ = some (.int .i64 0) := (blk_cell BK332.out 1).trans rfl; have hcz93_2 : w88.cell? ⟨gb332, 2, none⟩ = some (.slice none 0 0) := (blk_cell BK332.out 2).trans rfl; have hcz93_3 : w88.cell? ⟨gb332, 3, none⟩ = some (.int .i64 0) := (blk_cell BK332.out 3).trans rfl; have hcz93_4 : w88.cell? ⟨gb332, 4, none⟩ = some (.int .i64 0) := (blk_cell BK332.out 4).trans rfl; have hfz93_0 := blk_frozen BK332.out 0; have hfz93_1 := blk_frozen BK332.out 1; have hfz93_2 := blk_frozen BK332.out 2; have hfz93_3 := blk_frozen BK332.out 3; have hfz93_4 := blk_frozen BK332.out 4; obtain ⟨Ao94, co94, eo94⟩ := Kd.R_slice HO329.out; subst eo94; have hnb95 := NB292_298.out; have hnc95 := NB298_292.out; have hcz96_0 : w88.cell? ⟨gb292, 0, none⟩ = some (.string t285) := (blk_cell BK292.out 0).trans rfl; have hcz96_1 : w88.cell? ⟨gb292, 1, none⟩ = some (.int .i64 t286) := (blk_cell BK292.out 1).trans rfl; have hcz96_2 : w88.cell? ⟨gb292, 2, none⟩ = some (.slice Ao30 t287.length co30) := (blk_cell BK292.out 2).trans rfl; have hcz96_3 : w88.cell? ⟨gb292, 3, none⟩ = some (.int .i64 t290) := (blk_cell BK292.out 3).trans rfl; have hcz96_4 : w88.cell? ⟨gb292, 4, none⟩ = some (.int .i64 t291) := (blk_cell BK292.out 4).trans rfl; have hfz96_0 := blk_frozen BK292.out 0; have hfz96_1 := blk_frozen BK292.out 1; have hfz96_2 := blk_frozen BK292.out 2; have hfz96_3 := blk_frozen BK292.out 3; have hfz96_4 := blk_frozen BK292.out 4) | ((with_reducible refine gate_callee (f := 28) rfl ?_); refine goesL_ (some 69) rfl rfl Tryd.func28 (by kernel_rfl) rfl #[.agg #[.string t325, .int .i64 t326, .slice Ao94 t327.length co94, .int .i64 t330, .int .i64 t331], .agg #[.string t285, .int .i64 t286, .slice Ao30 t287.length co30, .int .i64 t290, .int .i64 t291]] rfl zb2_10 ?_; (with_reducible refine (laws_eqDialbackOut.calls kj18 t325 t326 _ _ t327 t330 t331 t285 t286 _ _ t287 t290 t291 true _ ?side1 ?side2 ?side3 ?side4 A70.out).mono ?_); (case side1 => refine (Kd.R_reads' (e := 71) (base := w.heap.size) (ok := fun k_ => ((((True ∧ some k_ ≠ (.slice Ao30 t287.length co30 : Value).ownBlock) ∧ some k_ ≠ (.slice Ao37 t315.length co37 : Value).ownBlock) ∧ some k_ ≠ (.slice Ao44 t301.length co44 : Value).ownBlock) ∧ some k_ ≠ (.slice Ao86 t322.length co86 : Value).ownBlock)) (n := t327.length) (c := co94) ?_).2.2; exact (by (with_reducible repeat (first | apply Kd.R_alloc | apply Kd.R_drewN | apply Kd.R_drew)); exact (Kd.R_mono (Kd.R_far (p := ⟨gb332, 4, none⟩) (Kd.R_far (p := ⟨gb332, 3, none⟩) (Kd.R_far (p := ⟨gb332, 2, none⟩) (Kd.R_far (p := ⟨gb332, 1, none⟩) (Kd.R_far (p := ⟨gb332, 0, none⟩) (Kd.R_types HO329.out BK332.out (by decide)) (fun _ hk => hk.2) (.string t325)) (fun _ hk => hk.2) (.int .i64 t326)) (fun _ hk => hk.2) (.slice Ao94 t327.length co94)) (fun _ hk => hk.2) (.int .i64 t330)) (fun _ hk => hk.2) (.int .i64 t331)) (fun _ h_ => h_.1)))); (case side2 => exact (Kd.R_reads' HO329.out).2.1); (case side3 => refine (Kd.R_reads' (e := 71) (base := w.heap.size) (ok := fun k_ => (((some k_ ≠ (.slice Ao37 t315.length co37 : Value).ownBlock ∧ some k_ ≠ (.slice Ao44 t301.length co44 : Value).ownBlock) ∧ some k_ ≠ (.slice Ao86 t322.length co86 : Value).ownBlock) ∧ some k_ ≠ (.slice Ao94 t327.length co94 : Value).ownBlock)) (n := t287.length) (c := co30) ?_).2.2; exact (by (with_reducible repeat (first | apply Kd.R_alloc | apply Kd.R_drewN | apply Kd.R_drew)); exact (Kd.R_mono (Kd.R_far (p := ⟨gb332, 4, none⟩) (Kd.R_far (p := ⟨gb332, 3, none⟩) (Kd.R_far (p := ⟨gb332, 2, none⟩) (Kd.R_far (p := ⟨gb332, 1, none⟩) (Kd.R_far (p := ⟨gb332, 0, none⟩) (Kd.R_types HO_293002.out BK332.out (by decide)) (fun _ hk => hk.2) (.string t325)) (fun _ hk => hk.2) (.int .i64 t326)) (fun _ hk => hk.2) (.slice Ao94 t327.length co94)) (fun _ hk => hk.2) (.int .i64 t330)) (fun _ hk => hk.2) (.int .i64 t331)) (fun _ h_ => h_.1)))); (case side4 => exact (Kd.R_reads' HO_293002.out).2.1); rintro e w97 ⟨rfl, hb⟩; refine ⟨_, rfl, ?_⟩; have n0_ := Aside0.mk (Kd.R_below (by (with_reducible repeat (first | apply Kd.R_alloc | apply Kd.R_drewN | apply Kd.R_drew)); exact (Kd.R_mono (Kd.R_far (p := ⟨gb332, 4, none⟩) (Kd.R_far (p := ⟨gb332, 3, none⟩) (Kd.R_far (p := ⟨gb332, 2, none⟩) (Kd.R_far (p := ⟨gb332, 1, none⟩) (Kd.R_far (p := ⟨gb332, 0, none⟩) (Kd.R_types HO_293002.out BK332.out (by decide)) (fun _ hk => hk.2) (.string t325)) (fun _ hk => hk.2) (.int .i64 t326)) (fun _ hk => hk.2) (.slice Ao94 t327.length co94)) (fun _ hk => hk.2) (.int .i64 t330)) (fun _ hk => hk.2) (.int .i64 t331)) (fun _ h_ => h_.1))) hb); have n1_ := Aside0.mk (Kd.R_below (by (with_reducible repeat (first | apply Kd.R_alloc | apply Kd.R_drewN | apply Kd.R_drew)); exact (Kd.R_mono (Kd.R_far (p := ⟨gb332, 4, none⟩) (Kd.R_far (p := ⟨gb332, 3, none⟩) (Kd.R_far (p := ⟨gb332, 2, none⟩) (Kd.R_far (p := ⟨gb332, 1, none⟩) (Kd.R_far (p := ⟨gb332, 0, none⟩) (Kd.R_types HO_299002.out BK332.out (by decide)) (fun _ hk => hk.2) (.string t325)) (fun _ hk => hk.2) (.int .i64 t326)) (fun _ hk => hk.2) (.slice Ao94 t327.length co94)) (fun _ hk => hk.2) (.int .i64 t330)) (fun _ hk => hk.2) (.int .i64 t331)) (fun _ h_ => h_.1))) hb); have n2_ := Aside0.mk (Kd.R_below (by (with_reducible repeat (first | apply Kd.R_alloc | apply Kd.R_drewN | apply Kd.R_drew)); exact (Kd.R_mono (Kd.R_far (p := ⟨gb332, 4, none⟩) (Kd.R_far (p := ⟨gb332, 3, none⟩) (Kd.R_far (p := ⟨gb332, 2, none⟩) (Kd.R_far (p := ⟨gb332, 1, none⟩) (Kd.R_far (p := ⟨gb332, 0, none⟩) (Kd.R_types HO_307002.out BK332.out (by decide)) (fun _ hk => hk.2) (.string t325)) (fun _ hk => hk.2) (.int .i64 t326)) (fun _ hk => hk.2) (.slice Ao94 t327.length co94)) (fun _ hk => hk.2) (.int .i64 t330)) (fun _ hk => hk.2) (.int .i64 t331)) (fun _ h_ => h_.1))) hb); have n3_ := Aside0.mk (Kd.R_below (by (with_reducible repeat (first | apply Kd.R_alloc | apply Kd.R_drewN | apply Kd.R_drew)); exact (Kd.R_mono (Kd.R_far (p := ⟨gb332, 4, none⟩) (Kd.R_far (p := ⟨gb332, 3, none⟩) (Kd.R_far (p := ⟨gb332, 2, none⟩) (Kd.R_far (p := ⟨gb332, 1, none⟩) (Kd.R_far (p := ⟨gb332, 0, none⟩) (Kd.R_types HO324.out BK332.out (by decide)) (fun _ hk => hk.2) (.string t325)) (fun _ hk => hk.2) (.int .i64 t326)) (fun _ hk => hk.2) (.slice Ao94 t327.length co94)) (fun _ hk => hk.2) (.int .i64 t330)) (fun _ hk => hk.2) (.int .i64 t331)) (fun _ h_ => h_.1))) hb); have n4_ := Aside0.mk (Kd.R_below (by (with_reducible repeat (first | apply Kd.R_alloc | apply Kd.R_drewN | apply Kd.R_drew)); exact (Kd.R_mono (Kd.R_far (p := ⟨gb332, 4, none⟩) (Kd.R_far (p := ⟨gb332, 3, none⟩) (Kd.R_far (p := ⟨gb332, 2, none⟩) (Kd.R_far (p := ⟨gb332, 1, none⟩) (Kd.R_far (p := ⟨gb332, 0, none⟩) (Kd.R_types HO329.out BK332.out (by decide)) (fun _ hk => hk.2) (.string t325)) (fun _ hk => hk.2) (.int .i64 t326)) (fun _ hk => hk.2) (.slice Ao94 t327.length co94)) (fun _ hk => hk.2) (.int .i64 t330)) (fun _ hk => hk.2) (.int .i64 t331)) (fun _ h_ => h_.1))) hb); have n5_ := Aside0.mk (blk_below (g := gb278) (o := .cells #[.string a0_0, .int .i64 a0_1, .slice A0_2 l0_2.length c0_2] 35 (0, 0)) (by (with_reducible repeat (first | refine blk_drewN ?_ _ | refine blk_drew ?_ | refine blk_alloc ?_ _)); refine blk_far ?_ NB278_332.out _; (with_reducible repeat (first | refine blk_drewN ?_ _ | refine blk_drew ?_ | refine blk_alloc ?_ _)); refine blk_far ?_ NB278_332.out _; (with_reducible repeat (first | refine blk_drewN ?_ _ | refine blk_drew ?_ | refine blk_alloc ?_ _)); refine blk_far ?_ NB278_332.out _; (with_reducible repeat (first | refine blk_drewN ?_ _ | refine blk_drew ?_ | refine blk_alloc ?_ _)); refine blk_far ?_ NB278_332.out _; (with_reducible repeat (first | refine blk_drewN ?_ _ | refine blk_drew ?_ | refine blk_alloc ?_ _)); refine blk_far ?_ NB278_332.out _; (with_reducible repeat (first | refine blk_drewN ?_ _ | refine blk_drew ?_ | refine blk_alloc ?_ _)); exact BK278.out) hb); have n6_ := Aside0.mk (blk_below (g := gb292) (o := .cells #[.string t285, .int .i64 t286, .slice Ao30 t287.length co30, .int .i64 t290, .int .i64 t291] 51 (0, 0)) (by (with_reducible repeat (first | refine blk_drewN ?_ _ | refine blk_drew ?_ | refine blk_alloc ?_ _)); refine blk_far ?_ NB292_332.out _; (with_reducible repeat (first | refine blk_drewN ?_ _ | refine blk_drew ?_ | refine blk_alloc ?_ _)); refine blk_far ?_ NB292_332.out _; (with_reducible repeat (first | refine blk_drewN ?_ _ | refine blk_drew ?_ | refine blk_alloc ?_ _)); refine blk_far ?_ NB292_332.out _; (with_reducible repeat (first | refine blk_drewN ?_ _ | refine blk_drew ?_ | refine blk_alloc ?_ _)); refine blk_far ?_ NB292_332.out _; (with_reducible repeat (first | refine blk_drewN ?_ _ | refine blk_drew ?_ | refine blk_alloc ?_ _)); refine blk_far ?_ NB292_332.out _; (with_reducible repeat (first | refine blk_drewN ?_ _ | refine blk_drew ?_ | refine blk_alloc ?_ _)); exact BK292.out) hb); have n7_ := Aside0.mk (blk_below (g := gb298) (o := .cells #[.string t293, .int .i64 t294, .slice Ao37 t315.length co37] 40 (0, 0)) (by (with_reducible repeat (first | refine blk_drewN ?_ _ | refine blk_drew ?_ | refine blk_alloc ?_ _)); refine blk_far ?_ NB298_332.out _; (with_reducible repeat (first | refine blk_drewN ?_ _ | refine blk_drew ?_ | refine blk_alloc ?_ _)); refine blk_far ?_ NB298_332.out _; (with_reducible repeat (first | refine blk_drewN ?_ _ | refine blk_drew ?_ | refine blk_alloc ?_ _)); refine blk_far ?_ NB298_332.out _; (with_reducible repeat (first | refine blk_drewN ?_ _ | refine blk_drew ?_ | refine blk_alloc ?_ _)); refine blk_far ?_ NB298_332.out _; (with_reducible repeat (first | refine blk_drewN ?_ _ | refine blk_drew ?_ | refine blk_alloc ?_ _)); refine blk_far ?_ NB298_332.out _; (with_reducible repeat (first | refine blk_drewN ?_ _ | refine blk_drew ?_ | refine blk_alloc ?_ _)); exact BK298.out) hb); have n8_ := Aside0.mk (blk_below (g := gb306) (o := .cells #[.string t299, .int .i64 t300, .slice Ao44 t301.length co44, .int .i64 t304, .int .i64 t305] 51 (0, 0)) (by (with_reducible repeat (first | refine blk_drewN ?_ _ | refine blk_drew ?_ | refine blk_alloc ?_ _)); refine blk_far ?_ NB306_332.out _; (with_reducible repeat (first | refine blk_drewN ?_ _ | refine blk_drew ?_ | refine blk_alloc ?_ _)); refine blk_far ?_ NB306_332.out _; (with_reducible repeat (first | refine blk_drewN ?_ _ | refine blk_drew ?_ | refine blk_alloc ?_ _)); refine blk_far ?_ NB306_332.out _; (with_reducible repeat (first | refine blk_drewN ?_ _ | refine blk_drew ?_ | refine blk_alloc ?_ _)); refine blk_far ?_ NB306_332.out _; (with_reducible repeat (first | refine blk_drewN ?_ _ | refine blk_drew ?_ | refine blk_alloc ?_ _)); refine blk_far ?_ NB306_332.out _; (with_reducible repeat (first | refine blk_drewN ?_ _ | refine blk_drew ?_ | refine blk_alloc ?_ _)); exact BK306.out) hb); have n9_ := Aside0.mk (blk_below (g := gb332) (o := .cells #[.string t325, .int .i64 t326, .slice Ao94 t327.length co94, .int .i64 t330, .int .i64 t331] 51 (0, 0)) (by (with_reducible repeat (first | refine blk_drewN ?_ _ | refine blk_drew ?_ | refine blk_alloc ?_ _)); refine blk_put (cs := #[.string t325, .int .i64 t326, .slice Ao94 t327.length co94, .int .i64 t330, .int .i64 0]) ?_ 4 _ rfl; (with_reducible repeat (first | refine blk_drewN ?_ _ | refine blk_drew ?_ | refine blk_alloc ?_ _)); refine blk_put (cs := #[.string t325, .int .i64 t326, .slice Ao94 t327.length co94, .int .i64 0, .int .i64 0]) ?_ 3 _ rfl; (with_reducible repeat (first | refine blk_drewN ?_ _ | refine blk_drew ?_ | refine blk_alloc ?_ _)); refine blk_put (cs := #[.string t325, .int .i64 t326, .slice none 0 0, .int .i64 0, .int .i64 0]) ?_ 2 _ rfl; (with_reducible repeat (first | refine blk_drewN ?_ _ | refine blk_drew ?_ | refine blk_alloc ?_ _)); refine blk_put (cs := #[.string t325, .int .i64 0, .slice none 0 0, .int .i64 0, .int .i64 0]) ?_ 1 _ rfl; (with_reducible repeat (first | refine blk_drewN ?_ _ | refine blk_drew ?_ | refine blk_alloc ?_ _)); refine blk_put (cs := #[.string (⟨#[]⟩ : ByteArray), .int .i64 0, .slice none 0 0, .int .i64 0, .int .i64 0]) ?_ 0 _ rfl; (with_reducible repeat (first | refine blk_drewN ?_ _ | refine blk_drew ?_ | refine blk_alloc ?_ _)); exact BK332.out) hb); have n10_ := Aside0.mk (below_step (by repeat (first | (with_reducible first | exact HB.out | apply below_alloc | apply pw_below_drewN | apply below_drew1 | refine below_set ?_ GE278.out | refine below_set ?_ GE292.out | refine below_set ?_ GE298.out | refine below_set ?_ GE306.out | refine below_set ?_ GE332.out) | exact HB.out)) hb); clear HO_293002; clear HO_299002; clear HO_307002; clear HO324; clear HO329; clear BK278; clear BK292; clear BK298; clear BK306; clear BK332; clear HB; have HO_293002 := n0_; have HO_299002 := n1_; have HO_307002 := n2_; have HO324 := n3_; have HO329 := n4_; have BK278 := n5_; have BK292 := n6_; have BK298 := n7_; have BK306 := n8_; have BK332 := n9_; have HB := n10_; clear n0_ n1_ n2_ n3_ n4_ n5_ n6_ n7_ n8_ n9_ n10_; (try clear hb); (try clear hb2); (try clear hk); (try clear hi); have hcz98_0 : w97.cell? ⟨gb306, 0, none⟩ = some (.string t299) := (blk_cell BK306.out 0).trans rfl; have hcz98_1 : w97.cell? ⟨gb306, 1, none⟩ = some (.int .i64 t300) := (blk_cell BK306.out 1).trans rfl; have hcz98_2 : w97.cell? ⟨gb306, 2, none⟩ = some (.slice Ao44 t301.length co44) := (blk_cell BK306.out 2).trans rfl; have hcz98_3 : w97.cell? ⟨gb306, 3, none⟩ = some (.int .i64 t304) := (blk_cell BK306.out 3).trans rfl; have hcz98_4 : w97.cell? ⟨gb306, 4, none⟩ = some (.int .i64 t305) := (blk_cell BK306.out 4).trans rfl; have hfz98_0 := blk_frozen BK306.out 0; have hfz98_1 := blk_frozen BK306.out 1; have hfz98_2 := blk_frozen BK306.out 2; have hfz98_3 := blk_frozen BK306.out 3; have hfz98_4 := blk_frozen BK306.out 4) | ((with_reducible refine gate_callee (f := 31) rfl ?_); refine goesL_ (some 73) rfl rfl Tryd.func31 (by kernel_rfl) rfl #[.agg #[.string t299, .int .i64 t300, .slice Ao44 t318.length co44, .int .i64 t304, .int .i64 t305], .int .i64 1] rfl (by (try simp only [List.map_toArray, List.map_cons, List.map_nil]); first | done | (rw [show t318.length = t301.length from (Kd.R_reads' HO_307002.out).1.symm] <;> rfl) | rfl | (simp only [List.length_drop, List.length_take]; rfl)) ?_; (with_reducible refine (laws_heldDialbackOut.calls kj18 t299 t300 _ _ t318 t304 t305 1 t334 _ ?side1 ?side2 A72.out).mono ?_); (case side1 => repeat (first | exact (Kd.R_reads' HO_307002.out).2.2 | (with_reducible refine Kd.C_alloc ?_ _) | (with_reducible refine Kd.C_drewN ?_ _) | (with_reducible refine Kd.C_drew ?_))); (case side2 => rw [show t318.length = t301.length from (Kd.R_reads' HO_307002.out).1.symm]; exact (Kd.R_reads' HO_307002.out).2.1); rintro e w99 ⟨rfl, hb⟩; refine ⟨_, rfl, ?_⟩; have n0_ := Aside0.mk (Kd.R_below zb20_10 hb); have n1_ := Aside0.mk (Kd.R_below zb21_10 hb); have n2_ := Aside0.mk (Kd.R_below zb22_10 hb); have n3_ := Aside0.mk (Kd.R_below zb23_10 hb); have n4_ := Aside0.mk (Kd.R_below (by (with_reducible repeat (first | apply Kd.R_alloc | apply Kd.R_drewN | apply Kd.R_drew)); exact HO329.out) hb); have n5_ := Aside0.mk (blk_below (g := gb278) (o := .cells #[.string a0_0, .int .i64 a0_1, .slice A0_2 l0_2.length c0_2] 35 (0, 0)) zb3_10 hb); have n6_ := Aside0.mk (blk_below (g := gb292) (o := .cells #[.string t285, .int .i64 t286, .slice Ao30 t287.length co30, .int .i64 t290, .int .i64 t291] 51 (0, 0)) zb11_10 hb); have n7_ := Aside0.mk (blk_below (g := gb298) (o := .cells #[.string t293, .int .i64 t294, .slice Ao37 t315.length co37] 40 (0, 0)) zb17_10 hb); have n8_ := Aside0.mk (blk_below (g := gb306) (o := .cells #[.string t299, .int .i64 t300, .slice Ao44 t301.length co44, .int .i64 t304, .int .i64 t305] 51 (0, 0)) zb19_10 hb); have n9_ := Aside0.mk (blk_below (g := gb332) (o := .cells #[.string t325, .int .i64 t326, .slice Ao94 t327.length co94, .int .i64 t330, .int .i64 t331] 51 (0, 0)) (by (with_reducible repeat (first | refine blk_drewN ?_ _ | refine blk_drew ?_ | refine blk_alloc ?_ _)); exact BK332.out) hb); have n10_ := Aside0.mk (below_step (by repeat (first | (with_reducible first | exact HB.out | apply below_alloc | apply pw_below_drewN | apply below_drew1 | refine below_set ?_ GE278.out | refine below_set ?_ GE292.out | refine below_set ?_ GE298.out | refine below_set ?_ GE306.out | refine below_set ?_ GE332.out) | exact HB.out)) hb); clear HO_293002; clear HO_299002; clear HO_307002; clear HO324; clear HO329; clear BK278; clear BK292; clear BK298; clear BK306; clear BK332; clear HB; have HO_293002 := n0_; have HO_299002 := n1_; have HO_307002 := n2_; have HO324 := n3_; have HO329 := n4_; have BK278 := n5_; have BK292 := n6_; have BK298 := n7_; have BK306 := n8_; have BK332 := n9_; have HB := n10_; clear n0_ n1_ n2_ n3_ n4_ n5_ n6_ n7_ n8_ n9_ n10_; (try clear hb); (try clear hb2); (try clear hk); (try clear hi)))
            go_ret
            exact ⟨by first | rfl | (simp [errW_none, errW_some] <;> rfl) | (simp [*, errW_none, errW_some] <;> rfl), by repeat (first | (with_reducible first | exact HB.out | apply below_alloc | apply pw_below_drewN | apply below_drew1 | refine below_set ?_ GE278.out | refine below_set ?_ GE292.out | refine below_set ?_ GE298.out | refine below_set ?_ GE306.out | refine below_set ?_ GE332.out) | exact HB.out)⟩
           ·
            rw [if_neg c74] at H
            have c74b0 : (t334 == t317) = false := beq_eq_false_iff_ne.mpr c74
            have c74b1 : (t334 != t317) = true := bne_iff_ne.mpr c74
            exact absurd ((Option.some.inj H).trans hrt.out) (by decide)
         ·
          replace c71 := Bool.eq_false_iff.mpr c71
          subst c71
          have H1 : (some false) = some r := by rw [if_neg (show ¬ (false = true) by decide)] at H; exact H
          clear H
          have H := H1
          clear H1
          exact absurd ((Option.some.inj H).trans hrt.out) (by decide)
        ·
         rw [if_neg c67] at H
         have c67b0 : (t319 == t317) = false := beq_eq_false_iff_ne.mpr c67
         have c67b1 : (t319 != t317) = true := bne_iff_ne.mpr c67
         exact absurd ((Option.some.inj H).trans hrt.out) (by decide)
   ·
    replace c17 := Bool.eq_false_iff.mpr c17
    subst c17
    have H1 : (some false) = some r := by rw [if_neg (show ¬ (false = true) by decide)] at H; exact H
    clear H
    have H := H1
    clear H1
    exact absurd ((Option.some.inj H).trans hrt.out) (by decide)
  ·
   replace c14 := Bool.eq_false_iff.mpr c14
   subst c14
   have H1 : (some false) = some r := by rw [if_neg (show ¬ (false = true) by decide)] at H; exact H
   clear H
   have H := H1
   clear H1
   exact absurd ((Option.some.inj H).trans hrt.out) (by decide)

end Go.Proofs.YtjchggdekbnmnaaDoor.QFnExactDbVerified
