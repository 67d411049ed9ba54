-- laid by this session's own runner (wip/print2.py): not a printed file
import Derived.Test.YtjchggdekbnmnaaDoorQFnExactDbResultx0
import Derived.Test.YtjchggdekbnmnaaDoorQFnExactDbResultx1
import Derived.Test.YtjchggdekbnmnaaDoorQFnExactDbResultx2
import Derived.Test.YtjchggdekbnmnaaDoorQFnExactDbResultx4
import Derived.Test.YtjchggdekbnmnaaDoorQFnExactDbResultx6
import Derived.Test.YtjchggdekbnmnaaDoorQFnExactDbResultx10
namespace Go.Proofs.YtjchggdekbnmnaaDoor.QFnExactDbResult
open Go.RowKit Go.Proofs.YtjchggdekbnmnaaDoorW.PrintWords Go.Proofs.YtjchggdekbnmnaaDoorW.PrintLast Go.Proofs.YtjchggdekbnmnaaDoorW.PrintMore
attribute [local go_sem] max2_int min2_int max_two min_two max_three min_three max_four min_four   -- for this text's walks alone
set_option linter.unusedVariables false
set_option linter.unusedSimpArgs false

theorem bcq_11 {w : World} {g t : Nat} {cs : Array Value} {v : Value} (h : w.heap[g]? = some (.cells cs t (0, 0))) (j : Nat) (e : cs[j]? = some v := by rfl) : w.cell? ⟨g, j, none⟩ = some v := (blk_cell h j).trans e
theorem zb0_11 {P : Prop} (h : P := by repeat (first | (with_reducible first | exact HB.out | apply below_alloc | apply pw_below_drewN | apply below_drew1) | exact HB.out)) : P := h
theorem zb1_11 {P : Prop} (h : P := by rw [hg]; exact (below_size (by repeat (first | (with_reducible first | exact HB.out | apply below_alloc | apply pw_below_drewN | apply below_drew1) | exact HB.out)))) : P := h
theorem zb2_11 {P : Prop} (h : P := by (try simp only [List.map_toArray, List.map_cons, List.map_nil]); first | done | rfl | (simp only [List.length_drop, List.length_take]; rfl)) : P := h
theorem zb3_11 {P : Prop} (h : P := by (with_reducible repeat (first | refine blk_drewN ?_ _ | refine blk_drew ?_ | refine blk_alloc ?_ _)); exact BK298.out) : P := h
theorem zb4_11 {P : Prop} (h : P := by repeat (first | (with_reducible first | exact HB.out | apply below_alloc | apply pw_below_drewN | apply below_drew1 | refine below_set ?_ GE298.out) | exact HB.out)) : P := h
theorem zb5_11 {P : Prop} (h : P := by (with_reducible repeat (first | apply Kd.R_alloc | apply Kd.R_drewN | apply Kd.R_drew)); exact HO304.out) : P := h
theorem zb6_11 {P : Prop} (h : P := by (with_reducible repeat (first | apply Kd.R_alloc | apply Kd.R_drewN | apply Kd.R_drew)); exact HO309.out) : P := h
theorem zb7_11 {P : Prop} (h : P := by rw [hg]; exact Nat.ne_of_lt (blk_lt (g := gb298) (o := .cells #[.string a0_0, .int .i64 a0_1, .slice A0_2 l0_2.length c0_2] 35 (0, 0)) (by (with_reducible repeat (first | refine blk_drewN ?_ _ | refine blk_drew ?_ | refine blk_alloc ?_ _)); exact BK298.out))) : P := h
theorem zb8_11 {P : Prop} (h : P := by rw [hg]; exact Nat.ne_of_gt (blk_lt (g := gb298) (o := .cells #[.string a0_0, .int .i64 a0_1, .slice A0_2 l0_2.length c0_2] 35 (0, 0)) (by (with_reducible repeat (first | refine blk_drewN ?_ _ | refine blk_drew ?_ | refine blk_alloc ?_ _)); exact BK298.out))) : P := h
theorem zb9_11 {P : Prop} (h : P := by repeat (first | (with_reducible first | exact HB.out | apply below_alloc | apply pw_below_drewN | apply below_drew1 | refine below_set ?_ GE298.out | refine below_set ?_ GE312.out) | exact HB.out)) : P := h
theorem zb10_11 {P : Prop} (h : P := by (with_reducible repeat (first | apply Kd.R_alloc | apply Kd.R_drewN | apply Kd.R_drew)); exact HO317.out) : P := h
theorem zb11_11 {P : Prop} (h : P := by (with_reducible repeat (first | refine blk_drewN ?_ _ | refine blk_drew ?_ | refine blk_alloc ?_ _)); exact BK312.out) : P := h
theorem zb12_11 {P : Prop} (h : P := by rw [hg]; exact Nat.ne_of_lt (blk_lt (g := gb312) (o := .cells #[.string t305, .int .i64 t306, .slice Ao32 t307.length co32, .int .i64 t310, .int .i64 t311] 51 (0, 0)) (by (with_reducible repeat (first | refine blk_drewN ?_ _ | refine blk_drew ?_ | refine blk_alloc ?_ _)); exact BK312.out))) : P := h
theorem zb13_11 {P : Prop} (h : P := by rw [hg]; exact Nat.ne_of_gt (blk_lt (g := gb312) (o := .cells #[.string t305, .int .i64 t306, .slice Ao32 t307.length co32, .int .i64 t310, .int .i64 t311] 51 (0, 0)) (by (with_reducible repeat (first | refine blk_drewN ?_ _ | refine blk_drew ?_ | refine blk_alloc ?_ _)); exact BK312.out))) : P := h
theorem zb14_11 {P : Prop} (h : P := by (with_reducible repeat (first | apply Kd.R_alloc | apply Kd.R_drewN | apply Kd.R_drew)); exact (Kd.R_mono (Kd.R_far (p := ⟨gb318, 2, none⟩) (Kd.R_far (p := ⟨gb318, 1, none⟩) (Kd.R_far (p := ⟨gb318, 0, none⟩) (Kd.R_types HO317.out BK318.out (by decide)) (fun _ hk => hk.2) (.string t313)) (fun _ hk => hk.2) (.int .i64 t314)) (fun _ hk => hk.2) (.slice Ao39 t315.length co39)) (fun _ h_ => h_.1))) : P := h
theorem zb15_11 {P : Prop} (h : P := by repeat (first | (with_reducible first | exact HB.out | apply below_alloc | apply pw_below_drewN | apply below_drew1 | refine below_set ?_ GE298.out | refine below_set ?_ GE312.out | refine below_set ?_ GE318.out) | exact HB.out)) : P := h
theorem zb16_11 {P : Prop} (h : P := by (with_reducible repeat (first | apply Kd.R_alloc | apply Kd.R_drewN | apply Kd.R_drew)); exact HO323.out) : P := h
theorem zb17_11 {P : Prop} (h : P := by (with_reducible repeat (first | refine blk_drewN ?_ _ | refine blk_drew ?_ | refine blk_alloc ?_ _)); exact BK318.out) : P := h
theorem zb18_11 {P : Prop} (h : P := by repeat (first | (with_reducible first | exact HB.out | apply below_alloc | apply pw_below_drewN | apply below_drew1 | refine below_set ?_ GE298.out | refine below_set ?_ GE312.out | refine below_set ?_ GE318.out | refine below_set ?_ GE326.out) | exact HB.out)) : P := h
theorem zb19_11 {P : Prop} (h : P := by (with_reducible repeat (first | refine blk_drewN ?_ _ | refine blk_drew ?_ | refine blk_alloc ?_ _)); exact BK326.out) : P := h
theorem zb20_11 {P : Prop} (h : P := by (with_reducible repeat (first | apply Kd.R_alloc | apply Kd.R_drewN | apply Kd.R_drew)); exact HO_313002.out) : P := h
theorem zb21_11 {P : Prop} (h : P := by (with_reducible repeat (first | apply Kd.R_alloc | apply Kd.R_drewN | apply Kd.R_drew)); exact HO_319002.out) : P := h
theorem zb22_11 {P : Prop} (h : P := by (with_reducible repeat (first | apply Kd.R_alloc | apply Kd.R_drewN | apply Kd.R_drew)); exact HO_327002.out) : P := h
theorem zb23_11 {P : Prop} (h : P := by (with_reducible repeat (first | apply Kd.R_alloc | apply Kd.R_drewN | apply Kd.R_drew)); exact HO344.out) : P := h
/-! ### laws_FnExactDbResult: function 9 -/
def laws_FnExactDbResult.j0 : Nat → Int → ByteArray → Bool → ByteArray → Int → List (S97) → ByteArray → Int → List (S71) → Int → Int → ByteArray → Int → List (S71) → Int → Int → Option (Bool)
 | 0, _, _, _, _, _, _, _, _, _, _, _, _, _, _, _, _ => none
 | k + 1, x1, x2, x53, x299000, x299001, x299002, x313000, x313001, x313002, x313003, x313004, x327000, x327001, x327002, x327003, x327004 => if x53 = true then (some false) else ((laws_markDialbackOut.f k x327000 x327001 x327002 x327003 x327004 1).bind fun bt337 => ((laws_heldDialbackOut.f k x327000 x327001 bt337.2 x327003 x327004 1).bind fun t339 => (if t339 < 0 then (some false) else (if t339 = bt337.1 then ((laws_toDialback.f k x299000 x299001 x299002).bind fun bt340 => ((impl_DbResult.f k bt340.1 bt340.2.1 bt340.2.2 x1 x2).bind fun bt345 => ((laws_eqDialbackOut.f k bt345.1 bt345.2.1 bt345.2.2.1 bt345.2.2.2.1 bt345.2.2.2.2 x313000 x313001 x313002 x313003 x313004).bind fun t353 => (if t353 = true then ((laws_heldDialbackOut.f k x327000 x327001 bt337.2 x327003 x327004 1).bind fun t354 => (if t354 < 0 then (some false) else (if t354 = bt337.1 then (some true) else (some false)))) else (some false))))) else (some false)))))
def laws_FnExactDbResult.f (k : Nat) (a0_0 : ByteArray) (a0_1 : Int) (l0_2 : List (S97)) (a1 : Int) (a2 : ByteArray) : Option (Bool) := if (a2.size : Int) > 1048576 then (some true) else ((laws_szDialback.f k a0_0 a0_1 l0_2 1048576).bind fun t299 => (if t299 < 0 then (some true) else ((laws_toDialback.f k a0_0 a0_1 l0_2).bind fun bt300 => ((spec_DbResult.f k bt300.1 bt300.2.1 bt300.2.2 a1 a2).bind fun bt305 => ((laws_toDialback.f k a0_0 a0_1 l0_2).bind fun bt313 => ((impl_DbResult.f k bt313.1 bt313.2.1 bt313.2.2 a1 a2).bind fun bt319 => ((laws_eqDialbackOut.f k bt319.1 bt319.2.1 bt319.2.2.1 bt319.2.2.2.1 bt319.2.2.2.2 bt305.1 bt305.2.1 bt305.2.2.1 bt305.2.2.2.1 bt305.2.2.2.2).bind fun t327 => (if t327 = true then ((laws_toDialback.f k a0_0 a0_1 l0_2).bind fun bt328 => ((laws_eqDialback.f k bt313.1 bt313.2.1 bt313.2.2 bt328.1 bt328.2.1 bt328.2.2).bind fun t333 => (if t333 = true then ((laws_markDialback.f k bt313.1 bt313.2.1 bt313.2.2 1).bind fun bt334 => (if bt334.1 < 0 then (laws_FnExactDbResult.j0 k a1 a2 true a0_0 a0_1 l0_2 bt305.1 bt305.2.1 bt305.2.2.1 bt305.2.2.2.1 bt305.2.2.2.2 bt319.1 bt319.2.1 bt319.2.2.1 bt319.2.2.2.1 bt319.2.2.2.2) else ((laws_eqDialbackOut.f k bt319.1 bt319.2.1 bt319.2.2.1 bt319.2.2.2.1 bt319.2.2.2.2 bt305.1 bt305.2.1 bt305.2.2.1 bt305.2.2.2.1 bt305.2.2.2.2).bind fun t336 => (laws_FnExactDbResult.j0 k a1 a2 (!t336) a0_0 a0_1 l0_2 bt305.1 bt305.2.1 bt305.2.2.1 bt305.2.2.2.1 bt305.2.2.2.2 bt319.1 bt319.2.1 bt319.2.2.1 bt319.2.2.2.1 bt319.2.2.2.2)))) else (some false)))) else (some false)))))))))
theorem laws_FnExactDbResult.mono_l : ∀ k, (∀ y0 y1 y2 y3 y4 y5 y6 y7 y8 y9 y10 y11 y12 y13 y14 y15, LeO (laws_FnExactDbResult.j0 k y0 y1 y2 y3 y4 y5 y6 y7 y8 y9 y10 y11 y12 y13 y14 y15) (laws_FnExactDbResult.j0 (k + 1) y0 y1 y2 y3 y4 y5 y6 y7 y8 y9 y10 y11 y12 y13 y14 y15))
 | 0 => fun _ _ _ _ _ _ _ _ _ _ _ _ _ _ _ _ r h => by simp [laws_FnExactDbResult.j0] at h
 | k + 1 => by
  have ih0 := laws_FnExactDbResult.mono_l k
  ·
   intro y0 y1 y2 y3 y4 y5 y6 y7 y8 y9 y10 y11 y12 y13 y14 y15
   unfold laws_FnExactDbResult.j0
   repeat' first
   | (with_reducible exact ih0 _ _ _ _ _ _ _ _ _ _ _ _ _ _ _ _)
   | (with_reducible exact impl_DbResult.mono _ _ _ _ _ _)
   | (with_reducible exact laws_eqDialback.mono _ _ _ _ _ _ _)
   | (with_reducible exact laws_eqDialbackOut.mono _ _ _ _ _ _ _ _ _ _ _)
   | (with_reducible exact laws_heldDialbackOut.mono _ _ _ _ _ _ _)
   | (with_reducible exact laws_markDialback.mono _ _ _ _ _)
   | (with_reducible exact laws_markDialbackOut.mono _ _ _ _ _ _ _)
   | (with_reducible exact laws_szDialback.mono _ _ _ _ _)
   | (with_reducible exact laws_toDialback.mono _ _ _ _)
   | (with_reducible exact spec_DbResult.mono _ _ _ _ _ _)
   | (with_reducible exact LeO.refl _)
   | (with_reducible exact LeO.none _)
   | (with_reducible refine LeO.ite ?_ ?_)
   | (with_reducible refine LeO.bind ?_ (fun _ => ?_))
   | exact ih0 _ _ _ _ _ _ _ _ _ _ _ _ _ _ _ _
   | exact impl_DbResult.mono _ _ _ _ _ _
   | exact laws_eqDialback.mono _ _ _ _ _ _ _
   | exact laws_eqDialbackOut.mono _ _ _ _ _ _ _ _ _ _ _
   | exact laws_heldDialbackOut.mono _ _ _ _ _ _ _
   | exact laws_markDialback.mono _ _ _ _ _
   | exact laws_markDialbackOut.mono _ _ _ _ _ _ _
   | exact laws_szDialback.mono _ _ _ _ _
   | exact laws_toDialback.mono _ _ _ _
   | exact spec_DbResult.mono _ _ _ _ _ _
   | exact LeO.none _
   | refine LeO.ite ?_ ?_
   | refine LeO.bind ?_ (fun _ => ?_)
theorem laws_FnExactDbResult.mono : ∀ a0 a1 a2 a3 a4 k, LeO (laws_FnExactDbResult.f k a0 a1 a2 a3 a4) (laws_FnExactDbResult.f (k + 1) a0 a1 a2 a3 a4) := by
 intro a0 a1 a2 a3 a4 k
 have ih0 := laws_FnExactDbResult.mono_l k
 unfold laws_FnExactDbResult.f
 repeat' first
   | (with_reducible exact ih0 _ _ _ _ _ _ _ _ _ _ _ _ _ _ _ _)
   | (with_reducible exact impl_DbResult.mono _ _ _ _ _ _)
   | (with_reducible exact laws_eqDialback.mono _ _ _ _ _ _ _)
   | (with_reducible exact laws_eqDialbackOut.mono _ _ _ _ _ _ _ _ _ _ _)
   | (with_reducible exact laws_heldDialbackOut.mono _ _ _ _ _ _ _)
   | (with_reducible exact laws_markDialback.mono _ _ _ _ _)
   | (with_reducible exact laws_markDialbackOut.mono _ _ _ _ _ _ _)
   | (with_reducible exact laws_szDialback.mono _ _ _ _ _)
   | (with_reducible exact laws_toDialback.mono _ _ _ _)
   | (with_reducible exact spec_DbResult.mono _ _ _ _ _ _)
   | (with_reducible exact LeO.refl _)
   | (with_reducible exact LeO.none _)
   | (with_reducible refine LeO.ite ?_ ?_)
   | (with_reducible refine LeO.bind ?_ (fun _ => ?_))
   | exact ih0 _ _ _ _ _ _ _ _ _ _ _ _ _ _ _ _
   | exact impl_DbResult.mono _ _ _ _ _ _
   | exact laws_eqDialback.mono _ _ _ _ _ _ _
   | exact laws_eqDialbackOut.mono _ _ _ _ _ _ _ _ _ _ _
   | exact laws_heldDialbackOut.mono _ _ _ _ _ _ _
   | exact laws_markDialback.mono _ _ _ _ _
   | exact laws_markDialbackOut.mono _ _ _ _ _ _ _
   | exact laws_szDialback.mono _ _ _ _ _
   | exact laws_toDialback.mono _ _ _ _
   | exact spec_DbResult.mono _ _ _ _ _ _
   | exact LeO.none _
   | refine LeO.ite ?_ ?_
   | refine LeO.bind ?_ (fun _ => ?_)
set_option maxHeartbeats 8000000 in
set_option maxRecDepth 100000 in
theorem laws_FnExactDbResult.calls (k : Nat) (a0_0 : ByteArray) (a0_1 : Int) (A0_2 : Option Addr) (c0_2 : Nat) (l0_2 : List (S97)) (a1 : Int) (a2 : ByteArray) (r : Bool) (w : World) (hr0_2 : Kd.C k97 w A0_2 l0_2.length l0_2) (hc0_2 : l0_2.length ≤ c0_2) (h : laws_FnExactDbResult.f k a0_0 a0_1 l0_2 a1 a2 = some r) (hrt0 : r = true) (hmx : MaxIs w) :
  Calls Tryd.prog 9 #[.agg #[.string a0_0, .int .i64 a0_1, .slice A0_2 l0_2.length c0_2], .int .i64 a1, .string a2] w fun e w' => e = .returned (.bool r) ∧ Below w.heap.size w w' := by
 have hrt := Aside0.mk hrt0
 clear hrt0
 have hu35 := Tryd.underlying35
 have hu51 := Tryd.underlying51
 have hu40 := Tryd.underlying40
 have HR0_2 := Aside0.mk hr0_2
 have HC0_2 := Aside0.mk hc0_2
 clear hr0_2 hc0_2
 have HB := Aside0.mk (Below.refl w.heap.size w)
 have H : (if (a2.size : Int) > 1048576 then (some true) else ((laws_szDialback.f k a0_0 a0_1 l0_2 1048576).bind fun t299 => (if t299 < 0 then (some true) else ((laws_toDialback.f k a0_0 a0_1 l0_2).bind fun bt300 => ((spec_DbResult.f k bt300.1 bt300.2.1 bt300.2.2 a1 a2).bind fun bt305 => ((laws_toDialback.f k a0_0 a0_1 l0_2).bind fun bt313 => ((impl_DbResult.f k bt313.1 bt313.2.1 bt313.2.2 a1 a2).bind fun bt319 => ((laws_eqDialbackOut.f k bt319.1 bt319.2.1 bt319.2.2.1 bt319.2.2.2.1 bt319.2.2.2.2 bt305.1 bt305.2.1 bt305.2.2.1 bt305.2.2.2.1 bt305.2.2.2.2).bind fun t327 => (if t327 = true then ((laws_toDialback.f k a0_0 a0_1 l0_2).bind fun bt328 => ((laws_eqDialback.f k bt313.1 bt313.2.1 bt313.2.2 bt328.1 bt328.2.1 bt328.2.2).bind fun t333 => (if t333 = true then ((laws_markDialback.f k bt313.1 bt313.2.1 bt313.2.2 1).bind fun bt334 => (if bt334.1 < 0 then (laws_FnExactDbResult.j0 k a1 a2 true a0_0 a0_1 l0_2 bt305.1 bt305.2.1 bt305.2.2.1 bt305.2.2.2.1 bt305.2.2.2.2 bt319.1 bt319.2.1 bt319.2.2.1 bt319.2.2.2.1 bt319.2.2.2.2) else ((laws_eqDialbackOut.f k bt319.1 bt319.2.1 bt319.2.2.1 bt319.2.2.2.1 bt319.2.2.2.2 bt305.1 bt305.2.1 bt305.2.2.1 bt305.2.2.2.1 bt305.2.2.2.2).bind fun t336 => (laws_FnExactDbResult.j0 k a1 a2 (!t336) a0_0 a0_1 l0_2 bt305.1 bt305.2.1 bt305.2.2.1 bt305.2.2.2.1 bt305.2.2.2.2 bt319.1 bt319.2.1 bt319.2.2.1 bt319.2.2.2.1 bt319.2.2.2.2)))) else (some false)))) else (some false)))))))))) = some r := h
 clear h
 by_cases c4 : (a2.size : Int) > 1048576
 ·
  rw [if_pos c4] at H
  have c4b0 : decide (1048576 < (a2.size : Int)) = true := decide_eq_true c4
  have c4b1 : decide (1048576 < a2.size) = true := decide_eq_true (by omega)
  clear c4
  obtain rfl := Option.some.inj H
  go_enter Tryd.func9, Tryd.ntmps9
  go_wp2_with (first | ((with_reducible refine gate_dst (N := 3) rfl ?_); refine box_event ?hg (N := 3) ?hd (cs := #[.string a0_0, .int .i64 a0_1, .slice A0_2 l0_2.length c0_2]) (t := 35) ?hr ?_; (case hd => rfl); (case hg => rfl); (case hr => first | (go_simp; done) | (go_simp; rfl)); intro gb298 hg w5 hbox hb; have n0_ := Aside0.mk (below_step zb0_11 hb); have n1_ := Aside0.mk (hbox); have n2_ := Aside0.mk ((zb1_11 : w.heap.size ≤ gb298)); have n3_ := Aside0.mk ((zb1_11 : w.heap.size ≤ gb298)); clear HB; have HB := n0_; have BK298 := n1_; have GW298 := n2_; have GE298 := n3_; clear n0_ n1_ n2_ n3_; clear hb hbox hg))
  go_ret
  exact ⟨by first | rfl | (simp [errW_none, errW_some] <;> rfl) | (simp [*, errW_none, errW_some] <;> rfl), by repeat (first | (with_reducible first | exact HB.out | apply below_alloc | apply pw_below_drewN | apply below_drew1 | refine below_set ?_ GE298.out) | exact HB.out)⟩
 ·
  rw [if_neg c4] at H
  have c4b0 : decide (1048576 < (a2.size : Int)) = false := decide_eq_false c4
  have c4b1 : decide (1048576 < a2.size) = false := decide_eq_false (by omega)
  clear c4
  replace H := Option.bind_eq_some_iff.mp H
  obtain ⟨t299, A60, H⟩ := H
  replace H : (if t299 < 0 then (some true) else ((laws_toDialback.f k a0_0 a0_1 l0_2).bind fun bt300 => ((spec_DbResult.f k bt300.1 bt300.2.1 bt300.2.2 a1 a2).bind fun bt305 => ((laws_toDialback.f k a0_0 a0_1 l0_2).bind fun bt313 => ((impl_DbResult.f k bt313.1 bt313.2.1 bt313.2.2 a1 a2).bind fun bt319 => ((laws_eqDialbackOut.f k bt319.1 bt319.2.1 bt319.2.2.1 bt319.2.2.2.1 bt319.2.2.2.2 bt305.1 bt305.2.1 bt305.2.2.1 bt305.2.2.2.1 bt305.2.2.2.2).bind fun t327 => (if t327 = true then ((laws_toDialback.f k a0_0 a0_1 l0_2).bind fun bt328 => ((laws_eqDialback.f k bt313.1 bt313.2.1 bt313.2.2 bt328.1 bt328.2.1 bt328.2.2).bind fun t333 => (if t333 = true then ((laws_markDialback.f k bt313.1 bt313.2.1 bt313.2.2 1).bind fun bt334 => (if bt334.1 < 0 then (laws_FnExactDbResult.j0 k a1 a2 true a0_0 a0_1 l0_2 bt305.1 bt305.2.1 bt305.2.2.1 bt305.2.2.2.1 bt305.2.2.2.2 bt319.1 bt319.2.1 bt319.2.2.1 bt319.2.2.2.1 bt319.2.2.2.2) else ((laws_eqDialbackOut.f k bt319.1 bt319.2.1 bt319.2.2.1 bt319.2.2.2.1 bt319.2.2.2.2 bt305.1 bt305.2.1 bt305.2.2.1 bt305.2.2.2.1 bt305.2.2.2.2).bind fun t336 => (laws_FnExactDbResult.j0 k a1 a2 (!t336) a0_0 a0_1 l0_2 bt305.1 bt305.2.1 bt305.2.2.1 bt305.2.2.2.1 bt305.2.2.2.2 bt319.1 bt319.2.1 bt319.2.2.1 bt319.2.2.2.1 bt319.2.2.2.2)))) else (some false)))) else (some false)))))))) = some r := H
  have A6 := Aside0.mk A60
  clear A60
  by_cases c7 : t299 < 0
  ·
   rw [if_pos c7] at H
   have c7b0 : decide (t299 < 0) = true := decide_eq_true c7
   clear c7
   obtain rfl := Option.some.inj H
   go_enter Tryd.func9, Tryd.ntmps9
   go_wp2_with (first | ((with_reducible refine gate_dst (N := 3) rfl ?_); refine box_event ?hg (N := 3) ?hd (cs := #[.string a0_0, .int .i64 a0_1, .slice A0_2 l0_2.length c0_2]) (t := 35) ?hr ?_; (case hd => rfl); (case hg => rfl); (case hr => first | (go_simp; done) | (go_simp; rfl)); intro gb298 hg w8 hbox hb; have n0_ := Aside0.mk (below_step zb0_11 hb); have n1_ := Aside0.mk (hbox); have n2_ := Aside0.mk ((zb1_11 : w.heap.size ≤ gb298)); have n3_ := Aside0.mk ((zb1_11 : w.heap.size ≤ gb298)); clear HB; have HB := n0_; have BK298 := n1_; have GW298 := n2_; have GE298 := n3_; clear n0_ n1_ n2_ n3_; clear hb hbox hg; have hcz9_0 := bcq_11 BK298.out 0; have hcz9_1 := bcq_11 BK298.out 1; have hcz9_2 := bcq_11 BK298.out 2; have hfz9_0 := blk_frozen BK298.out 0; have hfz9_1 := blk_frozen BK298.out 1; have hfz9_2 := blk_frozen BK298.out 2) | ((with_reducible refine gate_callee (f := 15) rfl ?_); refine goesL_ (some 20) rfl rfl Tryd.func15 (by kernel_rfl) rfl #[.agg #[.string a0_0, .int .i64 a0_1, .slice A0_2 l0_2.length c0_2], .int .i64 1048576] rfl zb2_11 ?_; (with_reducible refine (laws_szDialback.calls k a0_0 a0_1 _ _ l0_2 1048576 t299 _ ?side1 ?side2 A6.out).mono ?_); (case side1 => repeat (first | exact (Kd.C_below HR0_2.out HB.out) | (with_reducible refine Kd.C_alloc ?_ _) | (with_reducible refine Kd.C_drewN ?_ _) | (with_reducible refine Kd.C_drew ?_))); (case side2 => exact HC0_2.out); rintro e w10 ⟨rfl, hb⟩; refine ⟨_, rfl, ?_⟩; have n0_ := Aside0.mk (blk_below (g := gb298) (o := .cells #[.string a0_0, .int .i64 a0_1, .slice A0_2 l0_2.length c0_2] 35 (0, 0)) zb3_11 hb); have n1_ := Aside0.mk (below_step zb4_11 hb); clear BK298; clear HB; have BK298 := n0_; have HB := n1_; clear n0_ n1_; (try clear hb); (try clear hb2); (try clear hk); (try clear hi)))
   go_ret
   exact ⟨by first | rfl | (simp [errW_none, errW_some] <;> rfl) | (simp [*, errW_none, errW_some] <;> rfl), by repeat (first | (with_reducible first | exact HB.out | apply below_alloc | apply pw_below_drewN | apply below_drew1 | refine below_set ?_ GE298.out) | exact HB.out)⟩
  ·
   rw [if_neg c7] at H
   have c7b0 : decide (t299 < 0) = false := decide_eq_false c7
   clear c7
   replace H := Option.bind_eq_some_iff.mp H
   obtain ⟨⟨t300, t301, t302⟩, A110, H⟩ := H
   replace H : ((spec_DbResult.f k t300 t301 t302 a1 a2).bind fun bt305 => ((laws_toDialback.f k a0_0 a0_1 l0_2).bind fun bt313 => ((impl_DbResult.f k bt313.1 bt313.2.1 bt313.2.2 a1 a2).bind fun bt319 => ((laws_eqDialbackOut.f k bt319.1 bt319.2.1 bt319.2.2.1 bt319.2.2.2.1 bt319.2.2.2.2 bt305.1 bt305.2.1 bt305.2.2.1 bt305.2.2.2.1 bt305.2.2.2.2).bind fun t327 => (if t327 = true then ((laws_toDialback.f k a0_0 a0_1 l0_2).bind fun bt328 => ((laws_eqDialback.f k bt313.1 bt313.2.1 bt313.2.2 bt328.1 bt328.2.1 bt328.2.2).bind fun t333 => (if t333 = true then ((laws_markDialback.f k bt313.1 bt313.2.1 bt313.2.2 1).bind fun bt334 => (if bt334.1 < 0 then (laws_FnExactDbResult.j0 k a1 a2 true a0_0 a0_1 l0_2 bt305.1 bt305.2.1 bt305.2.2.1 bt305.2.2.2.1 bt305.2.2.2.2 bt319.1 bt319.2.1 bt319.2.2.1 bt319.2.2.2.1 bt319.2.2.2.2) else ((laws_eqDialbackOut.f k bt319.1 bt319.2.1 bt319.2.2.1 bt319.2.2.2.1 bt319.2.2.2.2 bt305.1 bt305.2.1 bt305.2.2.1 bt305.2.2.2.1 bt305.2.2.2.2).bind fun t336 => (laws_FnExactDbResult.j0 k a1 a2 (!t336) a0_0 a0_1 l0_2 bt305.1 bt305.2.1 bt305.2.2.1 bt305.2.2.2.1 bt305.2.2.2.2 bt319.1 bt319.2.1 bt319.2.2.1 bt319.2.2.2.1 bt319.2.2.2.2)))) else (some false)))) else (some false)))))) = some r := H
   have A11 := Aside0.mk A110
   clear A110
   replace H := Option.bind_eq_some_iff.mp H
   obtain ⟨⟨t305, t306, t307, t310, t311⟩, A120, H⟩ := H
   replace H : ((laws_toDialback.f k a0_0 a0_1 l0_2).bind fun bt313 => ((impl_DbResult.f k bt313.1 bt313.2.1 bt313.2.2 a1 a2).bind fun bt319 => ((laws_eqDialbackOut.f k bt319.1 bt319.2.1 bt319.2.2.1 bt319.2.2.2.1 bt319.2.2.2.2 t305 t306 t307 t310 t311).bind fun t327 => (if t327 = true then ((laws_toDialback.f k a0_0 a0_1 l0_2).bind fun bt328 => ((laws_eqDialback.f k bt313.1 bt313.2.1 bt313.2.2 bt328.1 bt328.2.1 bt328.2.2).bind fun t333 => (if t333 = true then ((laws_markDialback.f k bt313.1 bt313.2.1 bt313.2.2 1).bind fun bt334 => (if bt334.1 < 0 then (laws_FnExactDbResult.j0 k a1 a2 true a0_0 a0_1 l0_2 t305 t306 t307 t310 t311 bt319.1 bt319.2.1 bt319.2.2.1 bt319.2.2.2.1 bt319.2.2.2.2) else ((laws_eqDialbackOut.f k bt319.1 bt319.2.1 bt319.2.2.1 bt319.2.2.2.1 bt319.2.2.2.2 t305 t306 t307 t310 t311).bind fun t336 => (laws_FnExactDbResult.j0 k a1 a2 (!t336) a0_0 a0_1 l0_2 t305 t306 t307 t310 t311 bt319.1 bt319.2.1 bt319.2.2.1 bt319.2.2.2.1 bt319.2.2.2.2)))) else (some false)))) else (some false))))) = some r := H
   have A12 := Aside0.mk A120
   clear A120
   replace H := Option.bind_eq_some_iff.mp H
   obtain ⟨⟨t313, t314, t315⟩, A130, H⟩ := H
   replace H : ((impl_DbResult.f k t313 t314 t315 a1 a2).bind fun bt319 => ((laws_eqDialbackOut.f k bt319.1 bt319.2.1 bt319.2.2.1 bt319.2.2.2.1 bt319.2.2.2.2 t305 t306 t307 t310 t311).bind fun t327 => (if t327 = true then ((laws_toDialback.f k a0_0 a0_1 l0_2).bind fun bt328 => ((laws_eqDialback.f k t313 t314 t315 bt328.1 bt328.2.1 bt328.2.2).bind fun t333 => (if t333 = true then ((laws_markDialback.f k t313 t314 t315 1).bind fun bt334 => (if bt334.1 < 0 then (laws_FnExactDbResult.j0 k a1 a2 true a0_0 a0_1 l0_2 t305 t306 t307 t310 t311 bt319.1 bt319.2.1 bt319.2.2.1 bt319.2.2.2.1 bt319.2.2.2.2) else ((laws_eqDialbackOut.f k bt319.1 bt319.2.1 bt319.2.2.1 bt319.2.2.2.1 bt319.2.2.2.2 t305 t306 t307 t310 t311).bind fun t336 => (laws_FnExactDbResult.j0 k a1 a2 (!t336) a0_0 a0_1 l0_2 t305 t306 t307 t310 t311 bt319.1 bt319.2.1 bt319.2.2.1 bt319.2.2.2.1 bt319.2.2.2.2)))) else (some false)))) else (some false)))) = some r := H
   have A13 := Aside0.mk A130
   clear A130
   replace H := Option.bind_eq_some_iff.mp H
   obtain ⟨⟨t319, t320, t321, t324, t325⟩, A140, H⟩ := H
   replace H : ((laws_eqDialbackOut.f k t319 t320 t321 t324 t325 t305 t306 t307 t310 t311).bind fun t327 => (if t327 = true then ((laws_toDialback.f k a0_0 a0_1 l0_2).bind fun bt328 => ((laws_eqDialback.f k t313 t314 t315 bt328.1 bt328.2.1 bt328.2.2).bind fun t333 => (if t333 = true then ((laws_markDialback.f k t313 t314 t315 1).bind fun bt334 => (if bt334.1 < 0 then (laws_FnExactDbResult.j0 k a1 a2 true a0_0 a0_1 l0_2 t305 t306 t307 t310 t311 t319 t320 t321 t324 t325) else ((laws_eqDialbackOut.f k t319 t320 t321 t324 t325 t305 t306 t307 t310 t311).bind fun t336 => (laws_FnExactDbResult.j0 k a1 a2 (!t336) a0_0 a0_1 l0_2 t305 t306 t307 t310 t311 t319 t320 t321 t324 t325)))) else (some false)))) else (some false))) = some r := H
   have A14 := Aside0.mk A140
   clear A140
   replace H := Option.bind_eq_some_iff.mp H
   obtain ⟨t327, A150, H⟩ := H
   replace H : (if t327 = true then ((laws_toDialback.f k a0_0 a0_1 l0_2).bind fun bt328 => ((laws_eqDialback.f k t313 t314 t315 bt328.1 bt328.2.1 bt328.2.2).bind fun t333 => (if t333 = true then ((laws_markDialback.f k t313 t314 t315 1).bind fun bt334 => (if bt334.1 < 0 then (laws_FnExactDbResult.j0 k a1 a2 true a0_0 a0_1 l0_2 t305 t306 t307 t310 t311 t319 t320 t321 t324 t325) else ((laws_eqDialbackOut.f k t319 t320 t321 t324 t325 t305 t306 t307 t310 t311).bind fun t336 => (laws_FnExactDbResult.j0 k a1 a2 (!t336) a0_0 a0_1 l0_2 t305 t306 t307 t310 t311 t319 t320 t321 t324 t325)))) else (some false)))) else (some false)) = some r := H
   have A15 := Aside0.mk A150
   clear A150
   by_cases c16 : t327 = true
   ·
    subst c16
    have H1 : ((laws_toDialback.f k a0_0 a0_1 l0_2).bind fun bt328 => ((laws_eqDialback.f k t313 t314 t315 bt328.1 bt328.2.1 bt328.2.2).bind fun t333 => (if t333 = true then ((laws_markDialback.f k t313 t314 t315 1).bind fun bt334 => (if bt334.1 < 0 then (laws_FnExactDbResult.j0 k a1 a2 true a0_0 a0_1 l0_2 t305 t306 t307 t310 t311 t319 t320 t321 t324 t325) else ((laws_eqDialbackOut.f k t319 t320 t321 t324 t325 t305 t306 t307 t310 t311).bind fun t336 => (laws_FnExactDbResult.j0 k a1 a2 (!t336) a0_0 a0_1 l0_2 t305 t306 t307 t310 t311 t319 t320 t321 t324 t325)))) else (some false)))) = some r := by rw [if_pos rfl] at H; exact H
    clear H
    have H := H1
    clear H1
    replace H := Option.bind_eq_some_iff.mp H
    obtain ⟨⟨t328, t329, t330⟩, A170, H⟩ := H
    replace H : ((laws_eqDialback.f k t313 t314 t315 t328 t329 t330).bind fun t333 => (if t333 = true then ((laws_markDialback.f k t313 t314 t315 1).bind fun bt334 => (if bt334.1 < 0 then (laws_FnExactDbResult.j0 k a1 a2 true a0_0 a0_1 l0_2 t305 t306 t307 t310 t311 t319 t320 t321 t324 t325) else ((laws_eqDialbackOut.f k t319 t320 t321 t324 t325 t305 t306 t307 t310 t311).bind fun t336 => (laws_FnExactDbResult.j0 k a1 a2 (!t336) a0_0 a0_1 l0_2 t305 t306 t307 t310 t311 t319 t320 t321 t324 t325)))) else (some false))) = some r := H
    have A17 := Aside0.mk A170
    clear A170
    replace H := Option.bind_eq_some_iff.mp H
    obtain ⟨t333, A180, H⟩ := H
    replace H : (if t333 = true then ((laws_markDialback.f k t313 t314 t315 1).bind fun bt334 => (if bt334.1 < 0 then (laws_FnExactDbResult.j0 k a1 a2 true a0_0 a0_1 l0_2 t305 t306 t307 t310 t311 t319 t320 t321 t324 t325) else ((laws_eqDialbackOut.f k t319 t320 t321 t324 t325 t305 t306 t307 t310 t311).bind fun t336 => (laws_FnExactDbResult.j0 k a1 a2 (!t336) a0_0 a0_1 l0_2 t305 t306 t307 t310 t311 t319 t320 t321 t324 t325)))) else (some false)) = some r := H
    have A18 := Aside0.mk A180
    clear A180
    by_cases c19 : t333 = true
    ·
     subst c19
     have H1 : ((laws_markDialback.f k t313 t314 t315 1).bind fun bt334 => (if bt334.1 < 0 then (laws_FnExactDbResult.j0 k a1 a2 true a0_0 a0_1 l0_2 t305 t306 t307 t310 t311 t319 t320 t321 t324 t325) else ((laws_eqDialbackOut.f k t319 t320 t321 t324 t325 t305 t306 t307 t310 t311).bind fun t336 => (laws_FnExactDbResult.j0 k a1 a2 (!t336) a0_0 a0_1 l0_2 t305 t306 t307 t310 t311 t319 t320 t321 t324 t325)))) = some r := by rw [if_pos rfl] at H; exact H
     clear H
     have H := H1
     clear H1
     replace H := Option.bind_eq_some_iff.mp H
     obtain ⟨⟨t334, t335⟩, A200, H⟩ := H
     replace H : (if t334 < 0 then (laws_FnExactDbResult.j0 k a1 a2 true a0_0 a0_1 l0_2 t305 t306 t307 t310 t311 t319 t320 t321 t324 t325) else ((laws_eqDialbackOut.f k t319 t320 t321 t324 t325 t305 t306 t307 t310 t311).bind fun t336 => (laws_FnExactDbResult.j0 k a1 a2 (!t336) a0_0 a0_1 l0_2 t305 t306 t307 t310 t311 t319 t320 t321 t324 t325))) = some r := H
     have A20 := Aside0.mk A200
     clear A200
     have HC21 := Aside0.mk H
     clear H
     go_enter Tryd.func9, Tryd.ntmps9
     try go_wp2_with (first | ((with_reducible refine gate_dst (N := 3) rfl ?_); refine box_event ?hg (N := 3) ?hd (cs := #[.string a0_0, .int .i64 a0_1, .slice A0_2 l0_2.length c0_2]) (t := 35) ?hr ?_; (case hd => rfl); (case hg => rfl); (case hr => first | (go_simp; done) | (go_simp; rfl)); intro gb298 hg w22 hbox hb; have n0_ := Aside0.mk (below_step zb0_11 hb); have n1_ := Aside0.mk (hbox); have n2_ := Aside0.mk ((zb1_11 : w.heap.size ≤ gb298)); have n3_ := Aside0.mk ((zb1_11 : w.heap.size ≤ gb298)); clear HB; have HB := n0_; have BK298 := n1_; have GW298 := n2_; have GE298 := n3_; clear n0_ n1_ n2_ n3_; clear hb hbox hg; have hcz23_0 := bcq_11 BK298.out 0; have hcz23_1 := bcq_11 BK298.out 1; have hcz23_2 := bcq_11 BK298.out 2; have hfz23_0 := blk_frozen BK298.out 0; have hfz23_1 := blk_frozen BK298.out 1; have hfz23_2 := blk_frozen BK298.out 2) | ((with_reducible refine gate_callee (f := 15) rfl ?_); refine goesL_ (some 20) rfl rfl Tryd.func15 (by kernel_rfl) rfl #[.agg #[.string a0_0, .int .i64 a0_1, .slice A0_2 l0_2.length c0_2], .int .i64 1048576] rfl zb2_11 ?_; (with_reducible refine (laws_szDialback.calls k a0_0 a0_1 _ _ l0_2 1048576 t299 _ ?side1 ?side2 A6.out).mono ?_); (case side1 => repeat (first | exact (Kd.C_below HR0_2.out HB.out) | (with_reducible refine Kd.C_alloc ?_ _) | (with_reducible refine Kd.C_drewN ?_ _) | (with_reducible refine Kd.C_drew ?_))); (case side2 => exact HC0_2.out); rintro e w24 ⟨rfl, hb⟩; refine ⟨_, rfl, ?_⟩; have n0_ := Aside0.mk (blk_below (g := gb298) (o := .cells #[.string a0_0, .int .i64 a0_1, .slice A0_2 l0_2.length c0_2] 35 (0, 0)) zb3_11 hb); have n1_ := Aside0.mk (below_step zb4_11 hb); clear BK298; clear HB; have BK298 := n0_; have HB := n1_; clear n0_ n1_; (try clear hb); (try clear hb2); (try clear hk); (try clear hi); have hcz25_0 := bcq_11 BK298.out 0; have hcz25_1 := bcq_11 BK298.out 1; have hcz25_2 := bcq_11 BK298.out 2; have hfz25_0 := blk_frozen BK298.out 0; have hfz25_1 := blk_frozen BK298.out 1; have hfz25_2 := blk_frozen BK298.out 2) | ((with_reducible refine gate_callee (f := 17) rfl ?_); refine goesL_ (some 24) rfl rfl Tryd.func17 (by kernel_rfl) rfl #[.agg #[.string a0_0, .int .i64 a0_1, .slice A0_2 l0_2.length c0_2]] rfl zb2_11 ?_; (with_reducible refine (laws_toDialback.calls k a0_0 a0_1 _ _ l0_2 t300 t301 t302 _ ?side1 ?side2 A11.out).mono ?_); (case side1 => repeat (first | exact (Kd.C_below HR0_2.out HB.out) | (with_reducible refine Kd.C_alloc ?_ _) | (with_reducible refine Kd.C_drewN ?_ _) | (with_reducible refine Kd.C_drew ?_))); (case side2 => exact HC0_2.out); rintro e w26 ⟨v303, rfl, ho0, hb⟩; refine ⟨_, rfl, ?_⟩; have n0_ := Aside0.mk (Kd.R_lower ho0 (below_size zb4_11)); have n1_ := Aside0.mk (blk_below (g := gb298) (o := .cells #[.string a0_0, .int .i64 a0_1, .slice A0_2 l0_2.length c0_2] 35 (0, 0)) zb3_11 hb); have n2_ := Aside0.mk (below_step zb4_11 hb); clear BK298; clear HB; have HO304 := n0_; have BK298 := n1_; have HB := n2_; clear n0_ n1_ n2_; (try clear hb); (try clear hb2); (try clear hk); (try clear hi); (try clear ho0); obtain ⟨Ao27, co27, eo27⟩ := Kd.R_slice HO304.out; subst eo27) | ((with_reducible refine gate_callee (f := 34) rfl ?_); refine goesL_ (some 27) rfl rfl Tryd.func34 (by kernel_rfl) rfl #[.agg #[.string t300, .int .i64 t301, .slice Ao27 t302.length co27], .int .i64 a1, .string a2] rfl zb2_11 ?_; (with_reducible refine (spec_DbResult.calls k t300 t301 _ _ t302 a1 a2 t305 t306 t307 t310 t311 _ ?side1 ?side2 A12.out).mono ?_); (case side1 => repeat (first | exact (Kd.R_reads' HO304.out).2.2 | (with_reducible refine Kd.C_alloc ?_ _) | (with_reducible refine Kd.C_drewN ?_ _) | (with_reducible refine Kd.C_drew ?_))); (case side2 => exact (Kd.R_reads' HO304.out).2.1); rintro e w28 ⟨v308, rfl, ho0, hb⟩; refine ⟨_, rfl, ?_⟩; have n0_ := Aside0.mk (Kd.R_elder' zb5_11 (Kd.R_base ho0) hb); have n1_ := Aside0.mk (Kd.R_lower (Kd.R_new' ho0 (Kd.R_lt zb5_11)) (below_size zb4_11)); have n2_ := Aside0.mk (blk_below (g := gb298) (o := .cells #[.string a0_0, .int .i64 a0_1, .slice A0_2 l0_2.length c0_2] 35 (0, 0)) zb3_11 hb); have n3_ := Aside0.mk (below_step zb4_11 hb); clear HO304; clear BK298; clear HB; have HO304 := n0_; have HO309 := n1_; have BK298 := n2_; have HB := n3_; clear n0_ n1_ n2_ n3_; (try clear hb); (try clear hb2); (try clear hk); (try clear hi); (try clear ho0)) | ((with_reducible refine gate_dst (N := 8) rfl ?_); refine box_event ?hg (N := 8) ?hd (cs := #[.string (⟨#[]⟩ : ByteArray), .int .i64 0, .slice none 0 0, .int .i64 0, .int .i64 0]) (t := 51) ?hr ?_; (case hd => rfl); (case hg => rfl); (case hr => first | (go_simp; done) | (go_simp; rfl)); intro gb312 hg w29 hbox hb; have n0_ := Aside0.mk (Kd.R_below zb5_11 hb); have n1_ := Aside0.mk (Kd.R_below zb6_11 hb); have n2_ := Aside0.mk (blk_below (g := gb298) (o := .cells #[.string a0_0, .int .i64 a0_1, .slice A0_2 l0_2.length c0_2] 35 (0, 0)) zb3_11 hb); have n3_ := Aside0.mk (below_step zb4_11 hb); have n4_ := Aside0.mk (hbox); have n5_ := Aside0.mk ((by rw [hg]; exact (below_size zb4_11) : w.heap.size ≤ gb312)); have n6_ := Aside0.mk ((by rw [hg]; exact (below_size zb4_11) : w.heap.size ≤ gb312)); have n7_ := Aside0.mk ((zb7_11 : gb298 ≠ gb312)); have n8_ := Aside0.mk ((zb8_11 : gb312 ≠ gb298)); clear HO304; clear HO309; clear BK298; clear HB; have HO304 := n0_; have HO309 := n1_; have BK298 := n2_; have HB := n3_; have BK312 := n4_; have GW312 := n5_; have GE312 := n6_; have NB298_312 := n7_; have NB312_298 := n8_; clear n0_ n1_ n2_ n3_ n4_ n5_ n6_ n7_ n8_; clear hb hbox hg; have hnb30 := NB312_298.out; have hnc30 := NB298_312.out; have hcz31_0 := bcq_11 BK312.out 0; have hcz31_1 := bcq_11 BK312.out 1; have hcz31_2 := bcq_11 BK312.out 2; have hcz31_3 := bcq_11 BK312.out 3; have hcz31_4 := bcq_11 BK312.out 4; have hfz31_0 := blk_frozen BK312.out 0; have hfz31_1 := blk_frozen BK312.out 1; have hfz31_2 := blk_frozen BK312.out 2; have hfz31_3 := blk_frozen BK312.out 3; have hfz31_4 := blk_frozen BK312.out 4; obtain ⟨Ao32, co32, eo32⟩ := Kd.R_slice HO309.out; subst eo32; have hcz33_0 := bcq_11 BK298.out 0; have hcz33_1 := bcq_11 BK298.out 1; have hcz33_2 := bcq_11 BK298.out 2; have hfz33_0 := blk_frozen BK298.out 0; have hfz33_1 := blk_frozen BK298.out 1; have hfz33_2 := blk_frozen BK298.out 2) | ((with_reducible refine gate_callee (f := 17) rfl ?_); refine goesL_ (some 29) rfl rfl Tryd.func17 (by kernel_rfl) rfl #[.agg #[.string a0_0, .int .i64 a0_1, .slice A0_2 l0_2.length c0_2]] rfl zb2_11 ?_; (with_reducible refine (laws_toDialback.calls k a0_0 a0_1 _ _ l0_2 t313 t314 t315 _ ?side1 ?side2 A13.out).mono ?_); (case side1 => exact Kd.C_below HR0_2.out zb9_11); (case side2 => exact HC0_2.out); rintro e w34 ⟨v316, rfl, ho0, hb⟩; refine ⟨_, rfl, ?_⟩; have n0_ := Aside0.mk (Kd.R_elder' (by (with_reducible repeat (first | apply Kd.R_alloc | apply Kd.R_drewN | apply Kd.R_drew)); exact (Kd.R_mono (Kd.R_far (p := ⟨gb312, 4, none⟩) (Kd.R_far (p := ⟨gb312, 3, none⟩) (Kd.R_far (p := ⟨gb312, 2, none⟩) (Kd.R_far (p := ⟨gb312, 1, none⟩) (Kd.R_far (p := ⟨gb312, 0, none⟩) (Kd.R_types HO304.out BK312.out (by decide)) (fun _ hk => hk.2) (.string t305)) (fun _ hk => hk.2) (.int .i64 t306)) (fun _ hk => hk.2) (.slice Ao32 t307.length co32)) (fun _ hk => hk.2) (.int .i64 t310)) (fun _ hk => hk.2) (.int .i64 t311)) (fun _ h_ => h_.1))) (Kd.R_base ho0) hb); have n1_ := Aside0.mk (Kd.R_elder' (by (with_reducible repeat (first | apply Kd.R_alloc | apply Kd.R_drewN | apply Kd.R_drew)); exact (Kd.R_mono (Kd.R_far (p := ⟨gb312, 4, none⟩) (Kd.R_far (p := ⟨gb312, 3, none⟩) (Kd.R_far (p := ⟨gb312, 2, none⟩) (Kd.R_far (p := ⟨gb312, 1, none⟩) (Kd.R_far (p := ⟨gb312, 0, none⟩) (Kd.R_types HO309.out BK312.out (by decide)) (fun _ hk => hk.2) (.string t305)) (fun _ hk => hk.2) (.int .i64 t306)) (fun _ hk => hk.2) (.slice Ao32 t307.length co32)) (fun _ hk => hk.2) (.int .i64 t310)) (fun _ hk => hk.2) (.int .i64 t311)) (fun _ h_ => h_.1))) (Kd.R_base ho0) hb); have n2_ := Aside0.mk (Kd.R_lower (Kd.R_new' (Kd.R_new' ho0 (Kd.R_lt (by (with_reducible repeat (first | apply Kd.R_alloc | apply Kd.R_drewN | apply Kd.R_drew)); exact (Kd.R_mono (Kd.R_far (p := ⟨gb312, 4, none⟩) (Kd.R_far (p := ⟨gb312, 3, none⟩) (Kd.R_far (p := ⟨gb312, 2, none⟩) (Kd.R_far (p := ⟨gb312, 1, none⟩) (Kd.R_far (p := ⟨gb312, 0, none⟩) (Kd.R_types HO304.out BK312.out (by decide)) (fun _ hk => hk.2) (.string t305)) (fun _ hk => hk.2) (.int .i64 t306)) (fun _ hk => hk.2) (.slice Ao32 t307.length co32)) (fun _ hk => hk.2) (.int .i64 t310)) (fun _ hk => hk.2) (.int .i64 t311)) (fun _ h_ => h_.1))))) (Kd.R_lt (by (with_reducible repeat (first | apply Kd.R_alloc | apply Kd.R_drewN | apply Kd.R_drew)); exact (Kd.R_mono (Kd.R_far (p := ⟨gb312, 4, none⟩) (Kd.R_far (p := ⟨gb312, 3, none⟩) (Kd.R_far (p := ⟨gb312, 2, none⟩) (Kd.R_far (p := ⟨gb312, 1, none⟩) (Kd.R_far (p := ⟨gb312, 0, none⟩) (Kd.R_types HO309.out BK312.out (by decide)) (fun _ hk => hk.2) (.string t305)) (fun _ hk => hk.2) (.int .i64 t306)) (fun _ hk => hk.2) (.slice Ao32 t307.length co32)) (fun _ hk => hk.2) (.int .i64 t310)) (fun _ hk => hk.2) (.int .i64 t311)) (fun _ h_ => h_.1))))) (below_size zb9_11)); have n3_ := Aside0.mk (blk_below (g := gb298) (o := .cells #[.string a0_0, .int .i64 a0_1, .slice A0_2 l0_2.length c0_2] 35 (0, 0)) (by (with_reducible repeat (first | refine blk_drewN ?_ _ | refine blk_drew ?_ | refine blk_alloc ?_ _)); refine blk_far ?_ NB298_312.out _; (with_reducible repeat (first | refine blk_drewN ?_ _ | refine blk_drew ?_ | refine blk_alloc ?_ _)); refine blk_far ?_ NB298_312.out _; (with_reducible repeat (first | refine blk_drewN ?_ _ | refine blk_drew ?_ | refine blk_alloc ?_ _)); refine blk_far ?_ NB298_312.out _; (with_reducible repeat (first | refine blk_drewN ?_ _ | refine blk_drew ?_ | refine blk_alloc ?_ _)); refine blk_far ?_ NB298_312.out _; (with_reducible repeat (first | refine blk_drewN ?_ _ | refine blk_drew ?_ | refine blk_alloc ?_ _)); refine blk_far ?_ NB298_312.out _; (with_reducible repeat (first | refine blk_drewN ?_ _ | refine blk_drew ?_ | refine blk_alloc ?_ _)); exact BK298.out) hb); have n4_ := Aside0.mk (blk_below (g := gb312) (o := .cells #[.string t305, .int .i64 t306, .slice Ao32 t307.length co32, .int .i64 t310, .int .i64 t311] 51 (0, 0)) (by (with_reducible repeat (first | refine blk_drewN ?_ _ | refine blk_drew ?_ | refine blk_alloc ?_ _)); refine blk_put (cs := #[.string t305, .int .i64 t306, .slice Ao32 t307.length co32, .int .i64 t310, .int .i64 0]) ?_ 4 _ rfl; (with_reducible repeat (first | refine blk_drewN ?_ _ | refine blk_drew ?_ | refine blk_alloc ?_ _)); refine blk_put (cs := #[.string t305, .int .i64 t306, .slice Ao32 t307.length co32, .int .i64 0, .int .i64 0]) ?_ 3 _ rfl; (with_reducible repeat (first | refine blk_drewN ?_ _ | refine blk_drew ?_ | refine blk_alloc ?_ _)); refine blk_put (cs := #[.string t305, .int .i64 t306, .slice none 0 0, .int .i64 0, .int .i64 0]) ?_ 2 _ rfl; (with_reducible repeat (first | refine blk_drewN ?_ _ | refine blk_drew ?_ | refine blk_alloc ?_ _)); refine blk_put (cs := #[.string t305, .int .i64 0, .slice none 0 0, .int .i64 0, .int .i64 0]) ?_ 1 _ rfl; (with_reducible repeat (first | refine blk_drewN ?_ _ | refine blk_drew ?_ | refine blk_alloc ?_ _)); refine blk_put (cs := #[.string (⟨#[]⟩ : ByteArray), .int .i64 0, .slice none 0 0, .int .i64 0, .int .i64 0]) ?_ 0 _ rfl; (with_reducible repeat (first | refine blk_drewN ?_ _ | refine blk_drew ?_ | refine blk_alloc ?_ _)); exact BK312.out) hb); have n5_ := Aside0.mk (below_step zb9_11 hb); clear HO304; clear HO309; clear BK298; clear BK312; clear HB; have HO304 := n0_; have HO309 := n1_; have HO317 := n2_; have BK298 := n3_; have BK312 := n4_; have HB := n5_; clear n0_ n1_ n2_ n3_ n4_ n5_; (try clear hb); (try clear hb2); (try clear hk); (try clear hi); (try clear ho0)) | ((with_reducible refine gate_dst (N := 9) rfl ?_); refine box_event ?hg (N := 9) ?hd (cs := #[.string (⟨#[]⟩ : ByteArray), .int .i64 0, .slice none 0 0]) (t := 40) ?hr ?_; (case hd => rfl); (case hg => rfl); (case hr => first | (go_simp; done) | (go_simp; rfl)); intro gb318 hg w35 hbox hb; have n0_ := Aside0.mk (Kd.R_below zb5_11 hb); have n1_ := Aside0.mk (Kd.R_below zb6_11 hb); have n2_ := Aside0.mk (Kd.R_below zb10_11 hb); have n3_ := Aside0.mk (blk_below (g := gb298) (o := .cells #[.string a0_0, .int .i64 a0_1, .slice A0_2 l0_2.length c0_2] 35 (0, 0)) zb3_11 hb); have n4_ := Aside0.mk (blk_below (g := gb312) (o := .cells #[.string t305, .int .i64 t306, .slice Ao32 t307.length co32, .int .i64 t310, .int .i64 t311] 51 (0, 0)) zb11_11 hb); have n5_ := Aside0.mk (below_step zb9_11 hb); have n6_ := Aside0.mk (hbox); have n7_ := Aside0.mk ((by rw [hg]; exact (below_size zb9_11) : w.heap.size ≤ gb318)); have n8_ := Aside0.mk ((by rw [hg]; exact (below_size zb9_11) : w.heap.size ≤ gb318)); have n9_ := Aside0.mk ((zb7_11 : gb298 ≠ gb318)); have n10_ := Aside0.mk ((zb8_11 : gb318 ≠ gb298)); have n11_ := Aside0.mk ((zb12_11 : gb312 ≠ gb318)); have n12_ := Aside0.mk ((zb13_11 : gb318 ≠ gb312)); clear HO304; clear HO309; clear HO317; clear BK298; clear BK312; clear HB; have HO304 := n0_; have HO309 := n1_; have HO317 := n2_; have BK298 := n3_; have BK312 := n4_; have HB := n5_; have BK318 := n6_; have GW318 := n7_; have GE318 := n8_; have NB298_318 := n9_; have NB318_298 := n10_; have NB312_318 := n11_; have NB318_312 := n12_; clear n0_ n1_ n2_ n3_ n4_ n5_ n6_ n7_ n8_ n9_ n10_ n11_ n12_; clear hb hbox hg; have hnb36 := NB318_298.out; have hnc36 := NB298_318.out; have hnb37 := NB318_312.out; have hnc37 := NB312_318.out; have hcz38_0 := bcq_11 BK318.out 0; have hcz38_1 := bcq_11 BK318.out 1; have hcz38_2 := bcq_11 BK318.out 2; have hfz38_0 := blk_frozen BK318.out 0; have hfz38_1 := blk_frozen BK318.out 1; have hfz38_2 := blk_frozen BK318.out 2; obtain ⟨Ao39, co39, eo39⟩ := Kd.R_slice HO317.out; subst eo39) | ((with_reducible refine gate_callee (f := 35) rfl ?_); refine goesL_ (some 33) rfl rfl Tryd.func35 (by kernel_rfl) rfl #[.agg #[.string t313, .int .i64 t314, .slice Ao39 t315.length co39], .int .i64 a1, .string a2] rfl zb2_11 ?_; (with_reducible refine (impl_DbResult.calls k t313 t314 _ _ t315 a1 a2 t319 t320 t321 t324 t325 _ ?side1 ?side2 A14.out (by first | exact hmx | exact hmx.below HB.out | exact hmx.below (by repeat (first | (with_reducible first | exact HB.out | apply below_alloc | apply pw_below_drewN | apply below_drew1 | refine below_set ?_ GE298.out | refine below_set ?_ GE312.out | refine below_set ?_ GE318.out | refine below_set ?_ GE326.out | refine below_set ?_ GE352.out | exact Below.refl _ _) | exact HB.out | exact Below.refl _ _)))).mono ?_); (case side1 => refine (Kd.R_reads' (e := 71) (base := w.heap.size) (ok := fun k_ => ((True ∧ some k_ ≠ (.slice Ao27 t302.length co27 : Value).ownBlock) ∧ some k_ ≠ (.slice Ao32 t307.length co32 : Value).ownBlock)) (n := t315.length) (c := co39) ?_).2.2; exact zb14_11); (case side2 => exact (Kd.R_reads' HO317.out).2.1); rintro e w40 ⟨v322, rfl, ho0, hb⟩; refine ⟨_, rfl, ?_⟩; have n0_ := Aside0.mk (Kd.R_elder' (by (with_reducible repeat (first | apply Kd.R_alloc | apply Kd.R_drewN | apply Kd.R_drew)); exact (Kd.R_mono (Kd.R_far (p := ⟨gb318, 2, none⟩) (Kd.R_far (p := ⟨gb318, 1, none⟩) (Kd.R_far (p := ⟨gb318, 0, none⟩) (Kd.R_types HO304.out BK318.out (by decide)) (fun _ hk => hk.2) (.string t313)) (fun _ hk => hk.2) (.int .i64 t314)) (fun _ hk => hk.2) (.slice Ao39 t315.length co39)) (fun _ h_ => h_.1))) (Kd.R_base ho0) hb); have n1_ := Aside0.mk (Kd.R_elder' (by (with_reducible repeat (first | apply Kd.R_alloc | apply Kd.R_drewN | apply Kd.R_drew)); exact (Kd.R_mono (Kd.R_far (p := ⟨gb318, 2, none⟩) (Kd.R_far (p := ⟨gb318, 1, none⟩) (Kd.R_far (p := ⟨gb318, 0, none⟩) (Kd.R_types HO309.out BK318.out (by decide)) (fun _ hk => hk.2) (.string t313)) (fun _ hk => hk.2) (.int .i64 t314)) (fun _ hk => hk.2) (.slice Ao39 t315.length co39)) (fun _ h_ => h_.1))) (Kd.R_base ho0) hb); have n2_ := Aside0.mk (Kd.R_elder' zb14_11 (Kd.R_base ho0) hb); have n3_ := Aside0.mk (Kd.R_lower (Kd.R_new' (Kd.R_new' (Kd.R_new' ho0 (Kd.R_lt (by (with_reducible repeat (first | apply Kd.R_alloc | apply Kd.R_drewN | apply Kd.R_drew)); exact (Kd.R_mono (Kd.R_far (p := ⟨gb318, 2, none⟩) (Kd.R_far (p := ⟨gb318, 1, none⟩) (Kd.R_far (p := ⟨gb318, 0, none⟩) (Kd.R_types HO304.out BK318.out (by decide)) (fun _ hk => hk.2) (.string t313)) (fun _ hk => hk.2) (.int .i64 t314)) (fun _ hk => hk.2) (.slice Ao39 t315.length co39)) (fun _ h_ => h_.1))))) (Kd.R_lt (by (with_reducible repeat (first | apply Kd.R_alloc | apply Kd.R_drewN | apply Kd.R_drew)); exact (Kd.R_mono (Kd.R_far (p := ⟨gb318, 2, none⟩) (Kd.R_far (p := ⟨gb318, 1, none⟩) (Kd.R_far (p := ⟨gb318, 0, none⟩) (Kd.R_types HO309.out BK318.out (by decide)) (fun _ hk => hk.2) (.string t313)) (fun _ hk => hk.2) (.int .i64 t314)) (fun _ hk => hk.2) (.slice Ao39 t315.length co39)) (fun _ h_ => h_.1))))) (Kd.R_lt zb14_11)) (below_size zb15_11)); have n4_ := Aside0.mk (blk_below (g := gb298) (o := .cells #[.string a0_0, .int .i64 a0_1, .slice A0_2 l0_2.length c0_2] 35 (0, 0)) (by (with_reducible repeat (first | refine blk_drewN ?_ _ | refine blk_drew ?_ | refine blk_alloc ?_ _)); refine blk_far ?_ NB298_318.out _; (with_reducible repeat (first | refine blk_drewN ?_ _ | refine blk_drew ?_ | refine blk_alloc ?_ _)); refine blk_far ?_ NB298_318.out _; (with_reducible repeat (first | refine blk_drewN ?_ _ | refine blk_drew ?_ | refine blk_alloc ?_ _)); refine blk_far ?_ NB298_318.out _; (with_reducible repeat (first | refine blk_drewN ?_ _ | refine blk_drew ?_ | refine blk_alloc ?_ _)); exact BK298.out) hb); have n5_ := Aside0.mk (blk_below (g := gb312) (o := .cells #[.string t305, .int .i64 t306, .slice Ao32 t307.length co32, .int .i64 t310, .int .i64 t311] 51 (0, 0)) (by (with_reducible repeat (first | refine blk_drewN ?_ _ | refine blk_drew ?_ | refine blk_alloc ?_ _)); refine blk_far ?_ NB312_318.out _; (with_reducible repeat (first | refine blk_drewN ?_ _ | refine blk_drew ?_ | refine blk_alloc ?_ _)); refine blk_far ?_ NB312_318.out _; (with_reducible repeat (first | refine blk_drewN ?_ _ | refine blk_drew ?_ | refine blk_alloc ?_ _)); refine blk_far ?_ NB312_318.out _; (with_reducible repeat (first | refine blk_drewN ?_ _ | refine blk_drew ?_ | refine blk_alloc ?_ _)); exact BK312.out) hb); have n6_ := Aside0.mk (blk_below (g := gb318) (o := .cells #[.string t313, .int .i64 t314, .slice Ao39 t315.length co39] 40 (0, 0)) (by (with_reducible repeat (first | refine blk_drewN ?_ _ | refine blk_drew ?_ | refine blk_alloc ?_ _)); refine blk_put (cs := #[.string t313, .int .i64 t314, .slice none 0 0]) ?_ 2 _ rfl; (with_reducible repeat (first | refine blk_drewN ?_ _ | refine blk_drew ?_ | refine blk_alloc ?_ _)); refine blk_put (cs := #[.string t313, .int .i64 0, .slice none 0 0]) ?_ 1 _ rfl; (with_reducible repeat (first | refine blk_drewN ?_ _ | refine blk_drew ?_ | refine blk_alloc ?_ _)); refine blk_put (cs := #[.string (⟨#[]⟩ : ByteArray), .int .i64 0, .slice none 0 0]) ?_ 0 _ rfl; (with_reducible repeat (first | refine blk_drewN ?_ _ | refine blk_drew ?_ | refine blk_alloc ?_ _)); exact BK318.out) hb); have n7_ := Aside0.mk (below_step zb15_11 hb); clear HO304; clear HO309; clear HO317; clear BK298; clear BK312; clear BK318; clear HB; have HO304 := n0_; have HO309 := n1_; have HO317 := n2_; have HO323 := n3_; have BK298 := n4_; have BK312 := n5_; have BK318 := n6_; have HB := n7_; clear n0_ n1_ n2_ n3_ n4_ n5_ n6_ n7_; (try clear hb); (try clear hb2); (try clear hk); (try clear hi); (try clear ho0)) | ((with_reducible refine gate_dst (N := 10) rfl ?_); refine box_event ?hg (N := 10) ?hd (cs := #[.string (⟨#[]⟩ : ByteArray), .int .i64 0, .slice none 0 0, .int .i64 0, .int .i64 0]) (t := 51) ?hr ?_; (case hd => rfl); (case hg => rfl); (case hr => first | (go_simp; done) | (go_simp; rfl)); intro gb326 hg w41 hbox hb; have n0_ := Aside0.mk (Kd.R_below zb5_11 hb); have n1_ := Aside0.mk (Kd.R_below zb6_11 hb); have n2_ := Aside0.mk (Kd.R_below zb10_11 hb); have n3_ := Aside0.mk (Kd.R_below zb16_11 hb); have n4_ := Aside0.mk (blk_below (g := gb298) (o := .cells #[.string a0_0, .int .i64 a0_1, .slice A0_2 l0_2.length c0_2] 35 (0, 0)) zb3_11 hb); have n5_ := Aside0.mk (blk_below (g := gb312) (o := .cells #[.string t305, .int .i64 t306, .slice Ao32 t307.length co32, .int .i64 t310, .int .i64 t311] 51 (0, 0)) zb11_11 hb); have n6_ := Aside0.mk (blk_below (g := gb318) (o := .cells #[.string t313, .int .i64 t314, .slice Ao39 t315.length co39] 40 (0, 0)) zb17_11 hb); have n7_ := Aside0.mk (below_step zb15_11 hb); have n8_ := Aside0.mk (hbox); have n9_ := Aside0.mk ((by rw [hg]; exact (below_size zb15_11) : w.heap.size ≤ gb326)); have n10_ := Aside0.mk ((by rw [hg]; exact (below_size zb15_11) : w.heap.size ≤ gb326)); have n11_ := Aside0.mk ((zb7_11 : gb298 ≠ gb326)); have n12_ := Aside0.mk ((zb8_11 : gb326 ≠ gb298)); have n13_ := Aside0.mk ((zb12_11 : gb312 ≠ gb326)); have n14_ := Aside0.mk ((zb13_11 : gb326 ≠ gb312)); have n15_ := Aside0.mk ((by rw [hg]; exact Nat.ne_of_lt (blk_lt (g := gb318) (o := .cells #[.string t313, .int .i64 t314, .slice Ao39 t315.length co39] 40 (0, 0)) zb17_11) : gb318 ≠ gb326)); have n16_ := Aside0.mk ((by rw [hg]; exact Nat.ne_of_gt (blk_lt (g := gb318) (o := .cells #[.string t313, .int .i64 t314, .slice Ao39 t315.length co39] 40 (0, 0)) zb17_11) : gb326 ≠ gb318)); clear HO304; clear HO309; clear HO317; clear HO323; clear BK298; clear BK312; clear BK318; clear HB; have HO304 := n0_; have HO309 := n1_; have HO317 := n2_; have HO323 := n3_; have BK298 := n4_; have BK312 := n5_; have BK318 := n6_; have HB := n7_; have BK326 := n8_; have GW326 := n9_; have GE326 := n10_; have NB298_326 := n11_; have NB326_298 := n12_; have NB312_326 := n13_; have NB326_312 := n14_; have NB318_326 := n15_; have NB326_318 := n16_; clear n0_ n1_ n2_ n3_ n4_ n5_ n6_ n7_ n8_ n9_ n10_ n11_ n12_ n13_ n14_ n15_ n16_; clear hb hbox hg; have hnb42 := NB326_298.out; have hnc42 := NB298_326.out; have hnb43 := NB326_312.out; have hnc43 := NB312_326.out; have hnb44 := NB326_318.out; have hnc44 := NB318_326.out; have hcz45_0 := bcq_11 BK326.out 0; have hcz45_1 := bcq_11 BK326.out 1; have hcz45_2 := bcq_11 BK326.out 2; have hcz45_3 := bcq_11 BK326.out 3; have hcz45_4 := bcq_11 BK326.out 4; have hfz45_0 := blk_frozen BK326.out 0; have hfz45_1 := blk_frozen BK326.out 1; have hfz45_2 := blk_frozen BK326.out 2; have hfz45_3 := blk_frozen BK326.out 3; have hfz45_4 := blk_frozen BK326.out 4; obtain ⟨Ao46, co46, eo46⟩ := Kd.R_slice HO323.out; subst eo46; have hcz47_0 := bcq_11 BK312.out 0; have hcz47_1 := bcq_11 BK312.out 1; have hcz47_2 := bcq_11 BK312.out 2; have hcz47_3 := bcq_11 BK312.out 3; have hcz47_4 := bcq_11 BK312.out 4; have hfz47_0 := blk_frozen BK312.out 0; have hfz47_1 := blk_frozen BK312.out 1; have hfz47_2 := blk_frozen BK312.out 2; have hfz47_3 := blk_frozen BK312.out 3; have hfz47_4 := blk_frozen BK312.out 4) | ((with_reducible refine gate_callee (f := 28) rfl ?_); refine goesL_ (some 36) rfl rfl Tryd.func28 (by kernel_rfl) rfl #[.agg #[.string t319, .int .i64 t320, .slice Ao46 t321.length co46, .int .i64 t324, .int .i64 t325], .agg #[.string t305, .int .i64 t306, .slice Ao32 t307.length co32, .int .i64 t310, .int .i64 t311]] rfl zb2_11 ?_; (with_reducible refine (laws_eqDialbackOut.calls k t319 t320 _ _ t321 t324 t325 t305 t306 _ _ t307 t310 t311 true _ ?side1 ?side2 ?side3 ?side4 A15.out).mono ?_); (case side1 => refine (Kd.R_reads' (e := 71) (base := w.heap.size) (ok := fun k_ => (((True ∧ some k_ ≠ (.slice Ao27 t302.length co27 : Value).ownBlock) ∧ some k_ ≠ (.slice Ao32 t307.length co32 : Value).ownBlock) ∧ some k_ ≠ (.slice Ao39 t315.length co39 : Value).ownBlock)) (n := t321.length) (c := co46) ?_).2.2; exact (by (with_reducible repeat (first | apply Kd.R_alloc | apply Kd.R_drewN | apply Kd.R_drew)); exact (Kd.R_mono (Kd.R_far (p := ⟨gb326, 4, none⟩) (Kd.R_far (p := ⟨gb326, 3, none⟩) (Kd.R_far (p := ⟨gb326, 2, none⟩) (Kd.R_far (p := ⟨gb326, 1, none⟩) (Kd.R_far (p := ⟨gb326, 0, none⟩) (Kd.R_types HO323.out BK326.out (by decide)) (fun _ hk => hk.2) (.string t319)) (fun _ hk => hk.2) (.int .i64 t320)) (fun _ hk => hk.2) (.slice Ao46 t321.length co46)) (fun _ hk => hk.2) (.int .i64 t324)) (fun _ hk => hk.2) (.int .i64 t325)) (fun _ h_ => h_.1)))); (case side2 => exact (Kd.R_reads' HO323.out).2.1); (case side3 => refine (Kd.R_reads' (e := 71) (base := w.heap.size) (ok := fun k_ => (((True ∧ some k_ ≠ (.slice Ao27 t302.length co27 : Value).ownBlock) ∧ some k_ ≠ (.slice Ao39 t315.length co39 : Value).ownBlock) ∧ some k_ ≠ (.slice Ao46 t321.length co46 : Value).ownBlock)) (n := t307.length) (c := co32) ?_).2.2; exact (by (with_reducible repeat (first | apply Kd.R_alloc | apply Kd.R_drewN | apply Kd.R_drew)); exact (Kd.R_mono (Kd.R_far (p := ⟨gb326, 4, none⟩) (Kd.R_far (p := ⟨gb326, 3, none⟩) (Kd.R_far (p := ⟨gb326, 2, none⟩) (Kd.R_far (p := ⟨gb326, 1, none⟩) (Kd.R_far (p := ⟨gb326, 0, none⟩) (Kd.R_types HO309.out BK326.out (by decide)) (fun _ hk => hk.2) (.string t319)) (fun _ hk => hk.2) (.int .i64 t320)) (fun _ hk => hk.2) (.slice Ao46 t321.length co46)) (fun _ hk => hk.2) (.int .i64 t324)) (fun _ hk => hk.2) (.int .i64 t325)) (fun _ h_ => h_.1)))); (case side4 => exact (Kd.R_reads' HO309.out).2.1); rintro e w48 ⟨rfl, hb⟩; refine ⟨_, rfl, ?_⟩; have n0_ := Aside0.mk (Kd.R_below (by (with_reducible repeat (first | apply Kd.R_alloc | apply Kd.R_drewN | apply Kd.R_drew)); exact (Kd.R_mono (Kd.R_far (p := ⟨gb326, 4, none⟩) (Kd.R_far (p := ⟨gb326, 3, none⟩) (Kd.R_far (p := ⟨gb326, 2, none⟩) (Kd.R_far (p := ⟨gb326, 1, none⟩) (Kd.R_far (p := ⟨gb326, 0, none⟩) (Kd.R_types HO304.out BK326.out (by decide)) (fun _ hk => hk.2) (.string t319)) (fun _ hk => hk.2) (.int .i64 t320)) (fun _ hk => hk.2) (.slice Ao46 t321.length co46)) (fun _ hk => hk.2) (.int .i64 t324)) (fun _ hk => hk.2) (.int .i64 t325)) (fun _ h_ => h_.1))) hb); have n1_ := Aside0.mk (Kd.R_below (by (with_reducible repeat (first | apply Kd.R_alloc | apply Kd.R_drewN | apply Kd.R_drew)); exact (Kd.R_mono (Kd.R_far (p := ⟨gb326, 4, none⟩) (Kd.R_far (p := ⟨gb326, 3, none⟩) (Kd.R_far (p := ⟨gb326, 2, none⟩) (Kd.R_far (p := ⟨gb326, 1, none⟩) (Kd.R_far (p := ⟨gb326, 0, none⟩) (Kd.R_types HO309.out BK326.out (by decide)) (fun _ hk => hk.2) (.string t319)) (fun _ hk => hk.2) (.int .i64 t320)) (fun _ hk => hk.2) (.slice Ao46 t321.length co46)) (fun _ hk => hk.2) (.int .i64 t324)) (fun _ hk => hk.2) (.int .i64 t325)) (fun _ h_ => h_.1))) hb); have n2_ := Aside0.mk (Kd.R_below (by (with_reducible repeat (first | apply Kd.R_alloc | apply Kd.R_drewN | apply Kd.R_drew)); exact (Kd.R_mono (Kd.R_far (p := ⟨gb326, 4, none⟩) (Kd.R_far (p := ⟨gb326, 3, none⟩) (Kd.R_far (p := ⟨gb326, 2, none⟩) (Kd.R_far (p := ⟨gb326, 1, none⟩) (Kd.R_far (p := ⟨gb326, 0, none⟩) (Kd.R_types HO317.out BK326.out (by decide)) (fun _ hk => hk.2) (.string t319)) (fun _ hk => hk.2) (.int .i64 t320)) (fun _ hk => hk.2) (.slice Ao46 t321.length co46)) (fun _ hk => hk.2) (.int .i64 t324)) (fun _ hk => hk.2) (.int .i64 t325)) (fun _ h_ => h_.1))) hb); have n3_ := Aside0.mk (Kd.R_below (by (with_reducible repeat (first | apply Kd.R_alloc | apply Kd.R_drewN | apply Kd.R_drew)); exact (Kd.R_mono (Kd.R_far (p := ⟨gb326, 4, none⟩) (Kd.R_far (p := ⟨gb326, 3, none⟩) (Kd.R_far (p := ⟨gb326, 2, none⟩) (Kd.R_far (p := ⟨gb326, 1, none⟩) (Kd.R_far (p := ⟨gb326, 0, none⟩) (Kd.R_types HO323.out BK326.out (by decide)) (fun _ hk => hk.2) (.string t319)) (fun _ hk => hk.2) (.int .i64 t320)) (fun _ hk => hk.2) (.slice Ao46 t321.length co46)) (fun _ hk => hk.2) (.int .i64 t324)) (fun _ hk => hk.2) (.int .i64 t325)) (fun _ h_ => h_.1))) hb); have n4_ := Aside0.mk (blk_below (g := gb298) (o := .cells #[.string a0_0, .int .i64 a0_1, .slice A0_2 l0_2.length c0_2] 35 (0, 0)) (by (with_reducible repeat (first | refine blk_drewN ?_ _ | refine blk_drew ?_ | refine blk_alloc ?_ _)); refine blk_far ?_ NB298_326.out _; (with_reducible repeat (first | refine blk_drewN ?_ _ | refine blk_drew ?_ | refine blk_alloc ?_ _)); refine blk_far ?_ NB298_326.out _; (with_reducible repeat (first | refine blk_drewN ?_ _ | refine blk_drew ?_ | refine blk_alloc ?_ _)); refine blk_far ?_ NB298_326.out _; (with_reducible repeat (first | refine blk_drewN ?_ _ | refine blk_drew ?_ | refine blk_alloc ?_ _)); refine blk_far ?_ NB298_326.out _; (with_reducible repeat (first | refine blk_drewN ?_ _ | refine blk_drew ?_ | refine blk_alloc ?_ _)); refine blk_far ?_ NB298_326.out _; (with_reducible repeat (first | refine blk_drewN ?_ _ | refine blk_drew ?_ | refine blk_alloc ?_ _)); exact BK298.out) hb); have n5_ := Aside0.mk (blk_below (g := gb312) (o := .cells #[.string t305, .int .i64 t306, .slice Ao32 t307.length co32, .int .i64 t310, .int .i64 t311] 51 (0, 0)) (by (with_reducible repeat (first | refine blk_drewN ?_ _ | refine blk_drew ?_ | refine blk_alloc ?_ _)); refine blk_far ?_ NB312_326.out _; (with_reducible repeat (first | refine blk_drewN ?_ _ | refine blk_drew ?_ | refine blk_alloc ?_ _)); refine blk_far ?_ NB312_326.out _; (with_reducible repeat (first | refine blk_drewN ?_ _ | refine blk_drew ?_ | refine blk_alloc ?_ _)); refine blk_far ?_ NB312_326.out _; (with_reducible repeat (first | refine blk_drewN ?_ _ | refine blk_drew ?_ | refine blk_alloc ?_ _)); refine blk_far ?_ NB312_326.out _; (with_reducible repeat (first | refine blk_drewN ?_ _ | refine blk_drew ?_ | refine blk_alloc ?_ _)); refine blk_far ?_ NB312_326.out _; (with_reducible repeat (first | refine blk_drewN ?_ _ | refine blk_drew ?_ | refine blk_alloc ?_ _)); exact BK312.out) hb); have n6_ := Aside0.mk (blk_below (g := gb318) (o := .cells #[.string t313, .int .i64 t314, .slice Ao39 t315.length co39] 40 (0, 0)) (by (with_reducible repeat (first | refine blk_drewN ?_ _ | refine blk_drew ?_ | refine blk_alloc ?_ _)); refine blk_far ?_ NB318_326.out _; (with_reducible repeat (first | refine blk_drewN ?_ _ | refine blk_drew ?_ | refine blk_alloc ?_ _)); refine blk_far ?_ NB318_326.out _; (with_reducible repeat (first | refine blk_drewN ?_ _ | refine blk_drew ?_ | refine blk_alloc ?_ _)); refine blk_far ?_ NB318_326.out _; (with_reducible repeat (first | refine blk_drewN ?_ _ | refine blk_drew ?_ | refine blk_alloc ?_ _)); refine blk_far ?_ NB318_326.out _; (with_reducible repeat (first | refine blk_drewN ?_ _ | refine blk_drew ?_ | refine blk_alloc ?_ _)); refine blk_far ?_ NB318_326.out _; (with_reducible repeat (first | refine blk_drewN ?_ _ | refine blk_drew ?_ | refine blk_alloc ?_ _)); exact BK318.out) hb); have n7_ := Aside0.mk (blk_below (g := gb326) (o := .cells #[.string t319, .int .i64 t320, .slice Ao46 t321.length co46, .int .i64 t324, .int .i64 t325] 51 (0, 0)) (by (with_reducible repeat (first | refine blk_drewN ?_ _ | refine blk_drew ?_ | refine blk_alloc ?_ _)); refine blk_put (cs := #[.string t319, .int .i64 t320, .slice Ao46 t321.length co46, .int .i64 t324, .int .i64 0]) ?_ 4 _ rfl; (with_reducible repeat (first | refine blk_drewN ?_ _ | refine blk_drew ?_ | refine blk_alloc ?_ _)); refine blk_put (cs := #[.string t319, .int .i64 t320, .slice Ao46 t321.length co46, .int .i64 0, .int .i64 0]) ?_ 3 _ rfl; (with_reducible repeat (first | refine blk_drewN ?_ _ | refine blk_drew ?_ | refine blk_alloc ?_ _)); refine blk_put (cs := #[.string t319, .int .i64 t320, .slice none 0 0, .int .i64 0, .int .i64 0]) ?_ 2 _ rfl; (with_reducible repeat (first | refine blk_drewN ?_ _ | refine blk_drew ?_ | refine blk_alloc ?_ _)); refine blk_put (cs := #[.string t319, .int .i64 0, .slice none 0 0, .int .i64 0, .int .i64 0]) ?_ 1 _ rfl; (with_reducible repeat (first | refine blk_drewN ?_ _ | refine blk_drew ?_ | refine blk_alloc ?_ _)); refine blk_put (cs := #[.string (⟨#[]⟩ : ByteArray), .int .i64 0, .slice none 0 0, .int .i64 0, .int .i64 0]) ?_ 0 _ rfl; (with_reducible repeat (first | refine blk_drewN ?_ _ | refine blk_drew ?_ | refine blk_alloc ?_ _)); exact BK326.out) hb); have n8_ := Aside0.mk (below_step zb18_11 hb); clear HO304; clear HO309; clear HO317; clear HO323; clear BK298; clear BK312; clear BK318; clear BK326; clear HB; have HO304 := n0_; have HO309 := n1_; have HO317 := n2_; have HO323 := n3_; have BK298 := n4_; have BK312 := n5_; have BK318 := n6_; have BK326 := n7_; have HB := n8_; clear n0_ n1_ n2_ n3_ n4_ n5_ n6_ n7_ n8_; (try clear hb); (try clear hb2); (try clear hk); (try clear hi)))
     have n0_ := Aside0.mk (Kd.R_drew HO304.out)
     have n1_ := Aside0.mk (Kd.R_drew HO309.out)
     have n2_ := Aside0.mk (Kd.R_drew HO317.out)
     have n3_ := Aside0.mk (Kd.R_drew HO323.out)
     have n4_ := Aside0.mk (blk_drew BK298.out)
     have n5_ := Aside0.mk (blk_drew BK312.out)
     have n6_ := Aside0.mk (blk_drew BK318.out)
     have n7_ := Aside0.mk (blk_drew BK326.out)
     have n8_ := Aside0.mk (below_drew1 HB.out)
     clear HO304
     clear HO309
     clear HO317
     clear HO323
     clear BK298
     clear BK312
     clear BK318
     clear BK326
     clear HB
     have HO304 := n0_
     have HO309 := n1_
     have HO317 := n2_
     have HO323 := n3_
     have BK298 := n4_
     have BK312 := n5_
     have BK318 := n6_
     have BK326 := n7_
     have HB := n8_
     clear n0_ n1_ n2_ n3_ n4_ n5_ n6_ n7_ n8_
     refine start_ (n := 5) (S := fun w' => w'.cell? ⟨gb318, 0, none⟩ = some (.string t313) ∧ w'.cell? ⟨gb318, 1, none⟩ = some (.int .i64 t314) ∧ w'.cell? ⟨gb318, 2, none⟩ = some (.slice Ao39 t315.length co39) ∧ w'.cell? ⟨gb298, 0, none⟩ = some (.string a0_0) ∧ w'.cell? ⟨gb298, 1, none⟩ = some (.int .i64 a0_1) ∧ w'.cell? ⟨gb298, 2, none⟩ = some (.slice A0_2 l0_2.length c0_2)) (ds := []) #[false, false, false, false, false] (by kernel_rfl) rfl rfl ⟨(blk_cell BK318.out 0).trans rfl, (blk_cell BK318.out 1).trans rfl, (blk_cell BK318.out 2).trans rfl, (blk_cell BK298.out 0).trans rfl, (blk_cell BK298.out 1).trans rfl, (blk_cell BK298.out 2).trans rfl⟩ (fun hHeld => ?_)
     generalize w48.drew = w49 at HO304 HO309 HO317 HO323 BK298 BK312 BK318 BK326 HB hHeld ⊢
     refine take_ (i := 0) (N := some 38) (v := ?_) (a' := ?_) #[true, false, false, false, false] rfl rfl (by kernel_rfl) (fun _ _ _ h => h) (Or.inl ⟨by rfl, ?_⟩) hHeld ?_ ?_
     rotate_left
     ·
      rintro w' ⟨s0, s1, s2, s3, s4, s5⟩
      go_simp
      with_reducible rfl
     rotate_left
     ·
      simp only [Act.put, List.setIfInBounds_toArray, List.set_cons_zero, List.set_cons_succ, i64_w, i32_w]
      rfl
     refine take_ (i := 1) (N := some 39) (v := ?_) (a' := ?_) #[true, true, false, false, false] rfl rfl (by kernel_rfl) (fun _ _ _ h => h) (Or.inl ⟨by rfl, ?_⟩) hHeld ?_ ?_
     rotate_left
     ·
      rintro w' ⟨s0, s1, s2, s3, s4, s5⟩
      go_simp
      with_reducible rfl
     rotate_left
     ·
      simp only [Act.put, List.setIfInBounds_toArray, List.set_cons_zero, List.set_cons_succ, i64_w, i32_w]
      rfl
     refine one_ (i := 2) (N := some 40) #[true, true, true, false, false] rfl rfl (by kernel_rfl) (by decide) (fun K hK => ?_)
     refine goes_ Tryd.func17 (by kernel_rfl) rfl #[.agg #[.string a0_0, .int .i64 a0_1, .slice A0_2 l0_2.length c0_2]] (by rfl) rfl rfl zb2_11 ?_
     with_reducible refine (laws_toDialback.calls k a0_0 a0_1 _ _ l0_2 t328 t329 t330 _ ?side1 ?side2 A17.out).mono ?_
     (case side1 => repeat (first | exact (Kd.C_below HR0_2.out HB.out) | (with_reducible refine Kd.C_alloc ?_ _) | (with_reducible refine Kd.C_drewN ?_ _) | (with_reducible refine Kd.C_drew ?_)))
     (case side2 => exact HC0_2.out)
     rintro e w50 ⟨v331, rfl, ho0, hb⟩
     refine ⟨_, rfl, ?_⟩
     have n0_ := Aside0.mk (Kd.R_elder' zb5_11 (Kd.R_base ho0) hb)
     have n1_ := Aside0.mk (Kd.R_elder' zb6_11 (Kd.R_base ho0) hb)
     have n2_ := Aside0.mk (Kd.R_elder' zb10_11 (Kd.R_base ho0) hb)
     have n3_ := Aside0.mk (Kd.R_elder' zb16_11 (Kd.R_base ho0) hb)
     have n4_ := Aside0.mk (Kd.R_lower (Kd.R_new' (Kd.R_new' (Kd.R_new' (Kd.R_new' ho0 (Kd.R_lt zb5_11)) (Kd.R_lt zb6_11)) (Kd.R_lt zb10_11)) (Kd.R_lt zb16_11)) (below_size zb18_11))
     have n5_ := Aside0.mk (blk_below (g := gb298) (o := .cells #[.string a0_0, .int .i64 a0_1, .slice A0_2 l0_2.length c0_2] 35 (0, 0)) zb3_11 hb)
     have n6_ := Aside0.mk (blk_below (g := gb312) (o := .cells #[.string t305, .int .i64 t306, .slice Ao32 t307.length co32, .int .i64 t310, .int .i64 t311] 51 (0, 0)) zb11_11 hb)
     have n7_ := Aside0.mk (blk_below (g := gb318) (o := .cells #[.string t313, .int .i64 t314, .slice Ao39 t315.length co39] 40 (0, 0)) zb17_11 hb)
     have n8_ := Aside0.mk (blk_below (g := gb326) (o := .cells #[.string t319, .int .i64 t320, .slice Ao46 t321.length co46, .int .i64 t324, .int .i64 t325] 51 (0, 0)) zb19_11 hb)
     have n9_ := Aside0.mk (below_step zb18_11 hb)
     clear HO304
     clear HO309
     clear HO317
     clear HO323
     clear BK298
     clear BK312
     clear BK318
     clear BK326
     clear HB
     have HO304 := n0_
     have HO309 := n1_
     have HO317 := n2_
     have HO323 := n3_
     have HO332 := n4_
     have BK298 := n5_
     have BK312 := n6_
     have BK318 := n7_
     have BK326 := n8_
     have HB := n9_
     clear n0_ n1_ n2_ n3_ n4_ n5_ n6_ n7_ n8_ n9_
     (try clear hb)
     (try clear hb2)
     (try clear hk)
     (try clear hi)
     (try clear ho0)
     obtain ⟨Ao51, co51, eo51⟩ := Kd.R_slice HO332.out
     (first | subst eo51 | (injection eo51 with f1_ f2_ f3_; have f4_ := f1_.symm; have f5_ := f3_.symm; clear f1_ f2_ f3_; subst f4_; subst f5_))
     refine hK.out _ _ ⟨(blk_cell BK318.out 0).trans rfl, (blk_cell BK318.out 1).trans rfl, (blk_cell BK318.out 2).trans rfl, (blk_cell BK298.out 0).trans rfl, (blk_cell BK298.out 1).trans rfl, (blk_cell BK298.out 2).trans rfl⟩ (fun hHeld => ?_)
     clear hK K
     refine norm_ (a' := ?_) ?_ ?_
     rotate_left
     ·
      show Act.put _ (some 40) _ = _
      simp only [Act.put, List.setIfInBounds_toArray, List.set_cons_zero, List.set_cons_succ, i64_w, i32_w]
      rfl
     refine one_ (i := 3) (N := some 41) #[true, true, true, true, false] rfl rfl (by kernel_rfl) (by decide) (fun K hK => ?_)
     refine goes_ Tryd.func19 (by kernel_rfl) rfl #[.agg #[.string t313, .int .i64 t314, .slice Ao39 t315.length co39], .agg #[.string t328, .int .i64 t329, .slice Ao51 t330.length co51]] (by rfl) rfl rfl zb2_11 ?_
     with_reducible refine (laws_eqDialback.calls k t313 t314 _ _ t315 t328 t329 _ _ t330 true _ ?side1 ?side2 ?side3 ?side4 A18.out).mono ?_
     (case side1 => repeat (first | exact (Kd.R_reads' HO317.out).2.2 | (with_reducible refine Kd.C_alloc ?_ _) | (with_reducible refine Kd.C_drewN ?_ _) | (with_reducible refine Kd.C_drew ?_)))
     (case side2 => exact (Kd.R_reads' HO317.out).2.1)
     (case side3 => repeat (first | exact (Kd.R_reads' HO332.out).2.2 | (with_reducible refine Kd.C_alloc ?_ _) | (with_reducible refine Kd.C_drewN ?_ _) | (with_reducible refine Kd.C_drew ?_)))
     (case side4 => exact (Kd.R_reads' HO332.out).2.1)
     rintro e w52 ⟨rfl, hb⟩
     refine ⟨_, rfl, ?_⟩
     have n0_ := Aside0.mk (Kd.R_below zb5_11 hb)
     have n1_ := Aside0.mk (Kd.R_below zb6_11 hb)
     have n2_ := Aside0.mk (Kd.R_below zb10_11 hb)
     have n3_ := Aside0.mk (Kd.R_below zb16_11 hb)
     have n4_ := Aside0.mk (Kd.R_below (by (with_reducible repeat (first | apply Kd.R_alloc | apply Kd.R_drewN | apply Kd.R_drew)); exact HO332.out) hb)
     have n5_ := Aside0.mk (blk_below (g := gb298) (o := .cells #[.string a0_0, .int .i64 a0_1, .slice A0_2 l0_2.length c0_2] 35 (0, 0)) zb3_11 hb)
     have n6_ := Aside0.mk (blk_below (g := gb312) (o := .cells #[.string t305, .int .i64 t306, .slice Ao32 t307.length co32, .int .i64 t310, .int .i64 t311] 51 (0, 0)) zb11_11 hb)
     have n7_ := Aside0.mk (blk_below (g := gb318) (o := .cells #[.string t313, .int .i64 t314, .slice Ao39 t315.length co39] 40 (0, 0)) zb17_11 hb)
     have n8_ := Aside0.mk (blk_below (g := gb326) (o := .cells #[.string t319, .int .i64 t320, .slice Ao46 t321.length co46, .int .i64 t324, .int .i64 t325] 51 (0, 0)) zb19_11 hb)
     have n9_ := Aside0.mk (below_step zb18_11 hb)
     clear HO304
     clear HO309
     clear HO317
     clear HO323
     clear HO332
     clear BK298
     clear BK312
     clear BK318
     clear BK326
     clear HB
     have HO304 := n0_
     have HO309 := n1_
     have HO317 := n2_
     have HO323 := n3_
     have HO332 := n4_
     have BK298 := n5_
     have BK312 := n6_
     have BK318 := n7_
     have BK326 := n8_
     have HB := n9_
     clear n0_ n1_ n2_ n3_ n4_ n5_ n6_ n7_ n8_ n9_
     (try clear hb)
     (try clear hb2)
     (try clear hk)
     (try clear hi)
     refine hK.out _ _ ⟨(blk_cell BK318.out 0).trans rfl, (blk_cell BK318.out 1).trans rfl, (blk_cell BK318.out 2).trans rfl, (blk_cell BK298.out 0).trans rfl, (blk_cell BK298.out 1).trans rfl, (blk_cell BK298.out 2).trans rfl⟩ (fun hHeld => ?_)
     clear hK K
     refine norm_ (a' := ?_) ?_ ?_
     rotate_left
     ·
      show Act.put _ (some 41) _ = _
      simp only [Act.put, List.setIfInBounds_toArray, List.set_cons_zero, List.set_cons_succ, i64_w, i32_w]
      rfl
     refine pure_ (i := 4) (N := some 42) (v := ?_) (a' := ?_) #[true, true, true, true, true] rfl rfl (by kernel_rfl) (fun _ _ _ h => h) (Or.inl ⟨by rfl, ?_⟩) ?_ ?_
     rotate_left
     ·
      intro w'
      go_simp
      with_reducible rfl
     rotate_left
     ·
      simp only [Act.put, List.setIfInBounds_toArray, List.set_cons_zero, List.set_cons_succ, i64_w, i32_w]
      rfl
     refine done_ (by kernel_rfl) ?_
     have hcz53_0 := bcq_11 BK318.out 0
     have hcz53_1 := bcq_11 BK318.out 1
     have hcz53_2 := bcq_11 BK318.out 2
     have hfz53_0 := blk_frozen BK318.out 0
     have hfz53_1 := blk_frozen BK318.out 1
     have hfz53_2 := blk_frozen BK318.out 2
     go_upto_region 16 with (first | ((with_reducible refine gate_callee (f := 29) rfl ?_); refine goesL_ (some 45) rfl rfl Tryd.func29 (by kernel_rfl) rfl #[.agg #[.string t313, .int .i64 t314, .slice Ao39 t315.length co39], .int .i64 1] rfl zb2_11 ?_; (with_reducible refine (laws_markDialback.calls k t313 t314 (fun k_ => some k_ = (.slice Ao39 t315.length co39 : Value).ownBlock) (.slice Ao39 t315.length co39) t315 1 t334 t335 w _ ?side1 ?side2 A20.out).mono ?_); (case side1 => repeat (first | (with_reducible first | exact HB.out | apply below_alloc | apply pw_below_drewN | apply below_drew1 | refine below_set ?_ GE298.out | refine below_set ?_ GE312.out | refine below_set ?_ GE318.out | refine below_set ?_ GE326.out) | exact HB.out)); (case side2 => exact Kd.R_tight rfl HO317.out); rintro e w54 ⟨rfl, hy0, hb, hkp⟩; refine ⟨_, rfl, ?_⟩; have n0_ := Aside0.mk (blk_kept zb3_11 hkp (fun hs_ => (fun e_ => (Kd.R_ne HO317.out BK298.out (by decide)) e_) hs_)); have n1_ := Aside0.mk (Kd.R_mono (ok' := fun k_ => some k_ ≠ (.slice Ao32 t307.length co32 : Value).ownBlock ∧ some k_ ≠ (.slice Ao39 t315.length co39 : Value).ownBlock ∧ some k_ ≠ (.slice Ao46 t321.length co46 : Value).ownBlock ∧ some k_ ≠ (.slice Ao51 t330.length co51 : Value).ownBlock) (Kd.R_keptB (HO304.out) hkp (fun k_ hk_ hs_ => (hk_.1.1.2) hs_)) (fun k_ hk_ => ⟨hk_.1.1.1.1.2, hk_.1.1.1.2, hk_.1.1.2, hk_.1.2⟩)); have n2_ := Aside0.mk (Kd.R_mono (ok' := fun k_ => some k_ ≠ (.slice Ao27 t302.length co27 : Value).ownBlock ∧ some k_ ≠ (.slice Ao39 t315.length co39 : Value).ownBlock ∧ some k_ ≠ (.slice Ao46 t321.length co46 : Value).ownBlock ∧ some k_ ≠ (.slice Ao51 t330.length co51 : Value).ownBlock) (Kd.R_keptB (HO309.out) hkp (fun k_ hk_ hs_ => (hk_.1.1.2) hs_)) (fun k_ hk_ => ⟨hk_.1.1.1.1.2, hk_.1.1.1.2, hk_.1.1.2, hk_.1.2⟩)); have n3_ := Aside0.mk (blk_kept zb11_11 hkp (fun hs_ => (fun e_ => (Kd.R_ne HO317.out BK312.out (by decide)) e_) hs_)); have n4_ := Aside0.mk (Kd.R_reok rfl hy0 (fun k_ e_ => HO317.out.1 k_ e_)); have n5_ := Aside0.mk (blk_kept zb17_11 hkp (fun hs_ => (fun e_ => (Kd.R_ne HO317.out BK318.out (by decide)) e_) hs_)); have n6_ := Aside0.mk (Kd.R_mono (ok' := fun k_ => some k_ ≠ (.slice Ao27 t302.length co27 : Value).ownBlock ∧ some k_ ≠ (.slice Ao32 t307.length co32 : Value).ownBlock ∧ some k_ ≠ (.slice Ao39 t315.length co39 : Value).ownBlock ∧ some k_ ≠ (.slice Ao51 t330.length co51 : Value).ownBlock) (Kd.R_keptB (HO323.out) hkp (fun k_ hk_ hs_ => (hk_.1.2) hs_)) (fun k_ hk_ => ⟨hk_.1.1.1.1.2, hk_.1.1.1.2, hk_.1.1.2, hk_.1.2⟩)); have n7_ := Aside0.mk (blk_kept zb19_11 hkp (fun hs_ => (fun e_ => (Kd.R_ne HO317.out BK326.out (by decide)) e_) hs_)); have n8_ := Aside0.mk (Kd.R_mono (ok' := fun k_ => some k_ ≠ (.slice Ao27 t302.length co27 : Value).ownBlock ∧ some k_ ≠ (.slice Ao32 t307.length co32 : Value).ownBlock ∧ some k_ ≠ (.slice Ao39 t315.length co39 : Value).ownBlock ∧ some k_ ≠ (.slice Ao46 t321.length co46 : Value).ownBlock) (Kd.R_keptB (HO332.out) hkp (fun k_ hk_ hs_ => (hk_.1.2) hs_)) (fun k_ hk_ => ⟨hk_.1.1.1.1.2, hk_.1.1.1.2, hk_.1.1.2, hk_.1.2⟩)); have n9_ := Aside0.mk (hb); clear BK298; clear HO304; clear HO309; clear BK312; clear HO317; clear BK318; clear HO323; clear BK326; clear HO332; clear HB; have BK298 := n0_; have HO304 := n1_; have HO309 := n2_; have BK312 := n3_; have HO317 := n4_; have BK318 := n5_; have HO323 := n6_; have BK326 := n7_; have HO332 := n8_; have HB := n9_; clear n0_ n1_ n2_ n3_ n4_ n5_ n6_ n7_ n8_ n9_; (try clear hb); (try clear hkp); (try clear hy0)))
     (try simp only [Act.put, List.setIfInBounds_toArray, List.set_cons_zero, List.set_cons_succ])
     go_cut [53] (fun v53 wc => ∃ (kq : Nat) (x53_20 : Bool), v53 = .bool x53_20 ∧ Aside0 (laws_FnExactDbResult.j0 kq a1 a2 x53_20 a0_0 a0_1 l0_2 t305 t306 t307 t310 t311 t319 t320 t321 t324 t325 = some r) ∧ Aside0 (kq ≤ k) ∧ Aside0 (Kd.R k71 71 wc w.heap.size (fun k_ => some k_ ≠ ((.slice Ao39 t315.length co39) : Value).ownBlock ∧ some k_ ≠ ((.slice Ao46 t321.length co46) : Value).ownBlock) (.slice Ao32 t307.length co32) t307) ∧ Aside0 (Kd.R k71 71 wc w.heap.size (fun k_ => some k_ ≠ ((.slice Ao32 t307.length co32) : Value).ownBlock ∧ some k_ ≠ ((.slice Ao46 t321.length co46) : Value).ownBlock) (.slice Ao39 t315.length co39) t335) ∧ Aside0 (Kd.R k71 71 wc w.heap.size (fun k_ => some k_ ≠ ((.slice Ao32 t307.length co32) : Value).ownBlock ∧ some k_ ≠ ((.slice Ao39 t315.length co39) : Value).ownBlock) (.slice Ao46 t321.length co46) t321) ∧ Aside0 (wc.heap[gb298]? = some (.cells #[.string a0_0, .int .i64 a0_1, (.slice A0_2 l0_2.length c0_2)] 35 (0, 0))) ∧ Aside0 (wc.heap[gb312]? = some (.cells #[.string t305, .int .i64 t306, (.slice Ao32 t307.length co32), .int .i64 t310, .int .i64 t311] 51 (0, 0))) ∧ Aside0 (wc.heap[gb318]? = some (.cells #[.string t313, .int .i64 t314, (.slice Ao39 t315.length co39)] 40 (0, 0))) ∧ Aside0 (wc.heap[gb326]? = some (.cells #[.string t319, .int .i64 t320, (.slice Ao46 t321.length co46), .int .i64 t324, .int .i64 t325] 51 (0, 0))) ∧ Aside0 (Below w.heap.size w wc))
     case first =>
      have H := HC21.out
      clear HC21
      by_cases c55 : t334 < 0
      ·
       rw [if_pos c55] at H
       have c55b0 : decide (t334 < 0) = true := decide_eq_true c55
       clear c55
       (first | rw [c55b0] | (simp only [i64_w, i32_w]; rw [c55b0]) | skip)
       have H' := Aside0.mk H
       clear H
       go_wp2
       go_meet
       case rel => exact ⟨_, (true), (by first | rfl | (simp; done) | (simp [*]; done)), H', ⟨by first | omega | exact Nat.le_refl _⟩, ⟨by (with_reducible repeat (first | apply Kd.R_alloc | apply Kd.R_drewN | apply Kd.R_drew)); exact Kd.R_mono HO309.out (fun _ hk => ⟨hk.2.1, hk.2.2.1⟩)⟩, ⟨by (with_reducible repeat (first | apply Kd.R_alloc | apply Kd.R_drewN | apply Kd.R_drew)); exact Kd.R_mono HO317.out (fun _ hk => ⟨hk.1.1.2, hk.1.2⟩)⟩, ⟨by (with_reducible repeat (first | apply Kd.R_alloc | apply Kd.R_drewN | apply Kd.R_drew)); exact Kd.R_mono HO323.out (fun _ hk => ⟨hk.2.1, hk.2.2.1⟩)⟩, ⟨by (with_reducible repeat (first | refine blk_drewN ?_ _ | refine blk_drew ?_ | refine blk_alloc ?_ _)); exact BK298.out⟩, ⟨by (with_reducible repeat (first | refine blk_drewN ?_ _ | refine blk_drew ?_ | refine blk_alloc ?_ _)); exact BK312.out⟩, ⟨by (with_reducible repeat (first | refine blk_drewN ?_ _ | refine blk_drew ?_ | refine blk_alloc ?_ _)); exact BK318.out⟩, ⟨by (with_reducible repeat (first | refine blk_drewN ?_ _ | refine blk_drew ?_ | refine blk_alloc ?_ _)); exact BK326.out⟩, ⟨by repeat (first | (with_reducible first | exact HB.out | apply below_alloc | apply pw_below_drewN | apply below_drew1 | refine below_set ?_ GE298.out | refine below_set ?_ GE312.out | refine below_set ?_ GE318.out | refine below_set ?_ GE326.out) | exact HB.out)⟩⟩
      ·
       rw [if_neg c55] at H
       have c55b0 : decide (t334 < 0) = false := decide_eq_false c55
       clear c55
       (first | rw [c55b0] | (simp only [i64_w, i32_w]; rw [c55b0]) | skip)
       replace H := Option.bind_eq_some_iff.mp H
       obtain ⟨t336, A560, H⟩ := H
       replace H : (laws_FnExactDbResult.j0 k a1 a2 (!t336) a0_0 a0_1 l0_2 t305 t306 t307 t310 t311 t319 t320 t321 t324 t325) = some r := H
       have A56 := Aside0.mk A560
       clear A560
       have H' := Aside0.mk H
       clear H
       have hnb57 := NB326_298.out
       have hnc57 := NB298_326.out
       have hnb58 := NB326_312.out
       have hnc58 := NB312_326.out
       have hnb59 := NB326_318.out
       have hnc59 := NB318_326.out
       have hcz60_0 := bcq_11 BK326.out 0
       have hcz60_1 := bcq_11 BK326.out 1
       have hcz60_2 := bcq_11 BK326.out 2
       have hcz60_3 := bcq_11 BK326.out 3
       have hcz60_4 := bcq_11 BK326.out 4
       have hfz60_0 := blk_frozen BK326.out 0
       have hfz60_1 := blk_frozen BK326.out 1
       have hfz60_2 := blk_frozen BK326.out 2
       have hfz60_3 := blk_frozen BK326.out 3
       have hfz60_4 := blk_frozen BK326.out 4
       have hnb61 := NB312_298.out
       have hnc61 := NB298_312.out
       have hnb62 := NB312_318.out
       have hnc62 := NB318_312.out
       have hcz63_0 := bcq_11 BK312.out 0
       have hcz63_1 := bcq_11 BK312.out 1
       have hcz63_2 := bcq_11 BK312.out 2
       have hcz63_3 := bcq_11 BK312.out 3
       have hcz63_4 := bcq_11 BK312.out 4
       have hfz63_0 := blk_frozen BK312.out 0
       have hfz63_1 := blk_frozen BK312.out 1
       have hfz63_2 := blk_frozen BK312.out 2
       have hfz63_3 := blk_frozen BK312.out 3
       have hfz63_4 := blk_frozen BK312.out 4
       go_wp2_with (first | (go_at_call 28; (with_reducible refine (laws_eqDialbackOut.calls k t319 t320 _ _ t321 t324 t325 t305 t306 _ _ t307 t310 t311 t336 _ ?side1 ?side2 ?side3 ?side4 A56.out).mono ?_); (case side1 => repeat (first | exact (Kd.R_reads' HO323.out).2.2 | (with_reducible refine Kd.C_alloc ?_ _) | (with_reducible refine Kd.C_drewN ?_ _) | (with_reducible refine Kd.C_drew ?_))); (case side2 => exact (Kd.R_reads' HO323.out).2.1); (case side3 => repeat (first | exact (Kd.R_reads' HO309.out).2.2 | (with_reducible refine Kd.C_alloc ?_ _) | (with_reducible refine Kd.C_drewN ?_ _) | (with_reducible refine Kd.C_drew ?_))); (case side4 => exact (Kd.R_reads' HO309.out).2.1); rintro e w64 ⟨rfl, hb⟩; have n0_ := Aside0.mk (Kd.R_below zb5_11 hb); have n1_ := Aside0.mk (Kd.R_below zb6_11 hb); have n2_ := Aside0.mk (Kd.R_below zb10_11 hb); have n3_ := Aside0.mk (Kd.R_below zb16_11 hb); have n4_ := Aside0.mk (Kd.R_below (by (with_reducible repeat (first | apply Kd.R_alloc | apply Kd.R_drewN | apply Kd.R_drew)); exact HO332.out) hb); have n5_ := Aside0.mk (blk_below (g := gb298) (o := .cells #[.string a0_0, .int .i64 a0_1, .slice A0_2 l0_2.length c0_2] 35 (0, 0)) zb3_11 hb); have n6_ := Aside0.mk (blk_below (g := gb312) (o := .cells #[.string t305, .int .i64 t306, .slice Ao32 t307.length co32, .int .i64 t310, .int .i64 t311] 51 (0, 0)) zb11_11 hb); have n7_ := Aside0.mk (blk_below (g := gb318) (o := .cells #[.string t313, .int .i64 t314, .slice Ao39 t315.length co39] 40 (0, 0)) zb17_11 hb); have n8_ := Aside0.mk (blk_below (g := gb326) (o := .cells #[.string t319, .int .i64 t320, .slice Ao46 t321.length co46, .int .i64 t324, .int .i64 t325] 51 (0, 0)) zb19_11 hb); have n9_ := Aside0.mk (below_step zb18_11 hb); clear HO304; clear HO309; clear HO317; clear HO323; clear HO332; clear BK298; clear BK312; clear BK318; clear BK326; clear HB; have HO304 := n0_; have HO309 := n1_; have HO317 := n2_; have HO323 := n3_; have HO332 := n4_; have BK298 := n5_; have BK312 := n6_; have BK318 := n7_; have BK326 := n8_; have HB := n9_; clear n0_ n1_ n2_ n3_ n4_ n5_ n6_ n7_ n8_ n9_; (try clear hb); (try clear hb2); (try clear hk); (try clear hi)))
       go_meet
       case rel => exact ⟨_, (!t336), (by first | rfl | (simp; done) | (simp [*]; done)), H', ⟨by first | omega | exact Nat.le_refl _⟩, ⟨by (with_reducible repeat (first | apply Kd.R_alloc | apply Kd.R_drewN | apply Kd.R_drew)); exact Kd.R_mono HO309.out (fun _ hk => ⟨hk.2.1, hk.2.2.1⟩)⟩, ⟨by (with_reducible repeat (first | apply Kd.R_alloc | apply Kd.R_drewN | apply Kd.R_drew)); exact Kd.R_mono HO317.out (fun _ hk => ⟨hk.1.1.2, hk.1.2⟩)⟩, ⟨by (with_reducible repeat (first | apply Kd.R_alloc | apply Kd.R_drewN | apply Kd.R_drew)); exact Kd.R_mono HO323.out (fun _ hk => ⟨hk.2.1, hk.2.2.1⟩)⟩, ⟨by (with_reducible repeat (first | refine blk_drewN ?_ _ | refine blk_drew ?_ | refine blk_alloc ?_ _)); exact BK298.out⟩, ⟨by (with_reducible repeat (first | refine blk_drewN ?_ _ | refine blk_drew ?_ | refine blk_alloc ?_ _)); exact BK312.out⟩, ⟨by (with_reducible repeat (first | refine blk_drewN ?_ _ | refine blk_drew ?_ | refine blk_alloc ?_ _)); exact BK318.out⟩, ⟨by (with_reducible repeat (first | refine blk_drewN ?_ _ | refine blk_drew ?_ | refine blk_alloc ?_ _)); exact BK326.out⟩, ⟨by repeat (first | (with_reducible first | exact HB.out | apply below_alloc | apply pw_below_drewN | apply below_drew1 | refine below_set ?_ GE298.out | refine below_set ?_ GE312.out | refine below_set ?_ GE318.out | refine below_set ?_ GE326.out) | exact HB.out)⟩⟩
     case rest =>
      clear HC21
      try clear c1
      try clear c2
      try clear p2
      try clear c3
      try clear c4
      try clear c4b0
      try clear c4b1
      try clear c5
      try clear c6
      try clear c7
      try clear c7b0
      try clear c9
      try clear c15
      try clear c16
      try clear c17
      try clear c19
      try clear c28
      try clear c29
      try clear c30
      try clear c34
      try clear c35
      try clear c36
      try clear c37
      try clear c42
      try clear c43
      try clear c44
      try clear c55
      try clear c55b0
      try clear c57
      try clear c58
      try clear c59
      try clear c61
      try clear c62
      try clear hcz23_0
      try clear hcz23_1
      try clear hcz23_2
      try clear hcz25_0
      try clear hcz25_1
      try clear hcz25_2
      try clear hcz31_0
      try clear hcz31_1
      try clear hcz31_2
      try clear hcz31_3
      try clear hcz31_4
      try clear hcz33_0
      try clear hcz33_1
      try clear hcz33_2
      try clear hcz38_0
      try clear hcz38_1
      try clear hcz38_2
      try clear hcz45_0
      try clear hcz45_1
      try clear hcz45_2
      try clear hcz45_3
      try clear hcz45_4
      try clear hcz47_0
      try clear hcz47_1
      try clear hcz47_2
      try clear hcz47_3
      try clear hcz47_4
      try clear hcz53_0
      try clear hcz53_1
      try clear hcz53_2
      try clear hcz60_0
      try clear hcz60_1
      try clear hcz60_2
      try clear hcz60_3
      try clear hcz60_4
      try clear hcz63_0
      try clear hcz63_1
      try clear hcz63_2
      try clear hcz63_3
      try clear hcz63_4
      try clear hcz9_0
      try clear hcz9_1
      try clear hcz9_2
      try clear hfz23_0
      try clear hfz23_1
      try clear hfz23_2
      try clear hfz25_0
      try clear hfz25_1
      try clear hfz25_2
      try clear hfz31_0
      try clear hfz31_1
      try clear hfz31_2
      try clear hfz31_3
      try clear hfz31_4
      try clear hfz33_0
      try clear hfz33_1
      try clear hfz33_2
      try clear hfz38_0
      try clear hfz38_1
      try clear hfz38_2
      try clear hfz45_0
      try clear hfz45_1
      try clear hfz45_2
      try clear hfz45_3
      try clear hfz45_4
      try clear hfz47_0
      try clear hfz47_1
      try clear hfz47_2
      try clear hfz47_3
      try clear hfz47_4
      try clear hfz53_0
      try clear hfz53_1
      try clear hfz53_2
      try clear hfz60_0
      try clear hfz60_1
      try clear hfz60_2
      try clear hfz60_3
      try clear hfz60_4
      try clear hfz63_0
      try clear hfz63_1
      try clear hfz63_2
      try clear hfz63_3
      try clear hfz63_4
      try clear hfz9_0
      try clear hfz9_1
      try clear hfz9_2
      obtain ⟨kq, x53_20, rfl, HA, HJ20, HO_313002, HO_319002, HO_327002, BK298, BK312, BK318, BK326, HB⟩ := hcut
      have hl319002_20 := (Kd.R_reads' HO_319002.out).1
      rw [hl319002_20] at HO_319002
      (try simp only [hl319002_20])
      (try simp only [hl319002_20] at BK298)
      (try simp only [hl319002_20] at BK312)
      (try simp only [hl319002_20] at BK318)
      (try simp only [hl319002_20] at BK326)
      (try simp only [hl319002_20] at HO_313002)
      (try simp only [hl319002_20] at HO_327002)
      cases kq with
      | zero => exact absurd HA.out (by simp [laws_FnExactDbResult.j0])
      | succ kj20 =>
       have H := HA.out
       clear HA
       simp only [laws_FnExactDbResult.j0] at H
       by_cases c65 : x53_20 = true
       ·
        subst c65
        have H1 : (some false) = some r := by rw [if_pos rfl] at H; exact H
        clear H
        have H := H1
        clear H1
        exact absurd ((Option.some.inj H).trans hrt.out) (by decide)
       ·
        replace c65 := Bool.eq_false_iff.mpr c65
        subst c65
        have H1 : ((laws_markDialbackOut.f kj20 t319 t320 t321 t324 t325 1).bind fun bt337 => ((laws_heldDialbackOut.f kj20 t319 t320 bt337.2 t324 t325 1).bind fun t339 => (if t339 < 0 then (some false) else (if t339 = bt337.1 then ((laws_toDialback.f kj20 a0_0 a0_1 l0_2).bind fun bt340 => ((impl_DbResult.f kj20 bt340.1 bt340.2.1 bt340.2.2 a1 a2).bind fun bt345 => ((laws_eqDialbackOut.f kj20 bt345.1 bt345.2.1 bt345.2.2.1 bt345.2.2.2.1 bt345.2.2.2.2 t305 t306 t307 t310 t311).bind fun t353 => (if t353 = true then ((laws_heldDialbackOut.f kj20 t319 t320 bt337.2 t324 t325 1).bind fun t354 => (if t354 < 0 then (some false) else (if t354 = bt337.1 then (some true) else (some false)))) else (some false))))) else (some false))))) = some r := by rw [if_neg (show ¬ (false = true) by decide)] at H; exact H
        clear H
        have H := H1
        clear H1
        replace H := Option.bind_eq_some_iff.mp H
        obtain ⟨⟨t337, t338⟩, A660, H⟩ := H
        replace H : ((laws_heldDialbackOut.f kj20 t319 t320 t338 t324 t325 1).bind fun t339 => (if t339 < 0 then (some false) else (if t339 = t337 then ((laws_toDialback.f kj20 a0_0 a0_1 l0_2).bind fun bt340 => ((impl_DbResult.f kj20 bt340.1 bt340.2.1 bt340.2.2 a1 a2).bind fun bt345 => ((laws_eqDialbackOut.f kj20 bt345.1 bt345.2.1 bt345.2.2.1 bt345.2.2.2.1 bt345.2.2.2.2 t305 t306 t307 t310 t311).bind fun t353 => (if t353 = true then ((laws_heldDialbackOut.f kj20 t319 t320 t338 t324 t325 1).bind fun t354 => (if t354 < 0 then (some false) else (if t354 = t337 then (some true) else (some false)))) else (some false))))) else (some false)))) = some r := H
        have A66 := Aside0.mk A660
        clear A660
        replace H := Option.bind_eq_some_iff.mp H
        obtain ⟨t339, A670, H⟩ := H
        replace H : (if t339 < 0 then (some false) else (if t339 = t337 then ((laws_toDialback.f kj20 a0_0 a0_1 l0_2).bind fun bt340 => ((impl_DbResult.f kj20 bt340.1 bt340.2.1 bt340.2.2 a1 a2).bind fun bt345 => ((laws_eqDialbackOut.f kj20 bt345.1 bt345.2.1 bt345.2.2.1 bt345.2.2.2.1 bt345.2.2.2.2 t305 t306 t307 t310 t311).bind fun t353 => (if t353 = true then ((laws_heldDialbackOut.f kj20 t319 t320 t338 t324 t325 1).bind fun t354 => (if t354 < 0 then (some false) else (if t354 = t337 then (some true) else (some false)))) else (some false))))) else (some false))) = some r := H
        have A67 := Aside0.mk A670
        clear A670
        by_cases c68 : t339 < 0
        ·
         rw [if_pos c68] at H
         have c68b0 : decide (t339 < 0) = true := decide_eq_true c68
         clear c68
         exact absurd ((Option.some.inj H).trans hrt.out) (by decide)
        ·
         rw [if_neg c68] at H
         have c68b0 : decide (t339 < 0) = false := decide_eq_false c68
         clear c68
         by_cases c69 : t339 = t337
         ·
          rw [if_pos c69] at H
          have c69b0 : (t339 == t337) = true := beq_iff_eq.mpr c69
          have c69b1 : (t339 != t337) = false := bne_eq_false_iff_eq.mpr c69
          clear c69
          replace H := Option.bind_eq_some_iff.mp H
          obtain ⟨⟨t340, t341, t342⟩, A700, H⟩ := H
          replace H : ((impl_DbResult.f kj20 t340 t341 t342 a1 a2).bind fun bt345 => ((laws_eqDialbackOut.f kj20 bt345.1 bt345.2.1 bt345.2.2.1 bt345.2.2.2.1 bt345.2.2.2.2 t305 t306 t307 t310 t311).bind fun t353 => (if t353 = true then ((laws_heldDialbackOut.f kj20 t319 t320 t338 t324 t325 1).bind fun t354 => (if t354 < 0 then (some false) else (if t354 = t337 then (some true) else (some false)))) else (some false)))) = some r := H
          have A70 := Aside0.mk A700
          clear A700
          replace H := Option.bind_eq_some_iff.mp H
          obtain ⟨⟨t345, t346, t347, t350, t351⟩, A710, H⟩ := H
          replace H : ((laws_eqDialbackOut.f kj20 t345 t346 t347 t350 t351 t305 t306 t307 t310 t311).bind fun t353 => (if t353 = true then ((laws_heldDialbackOut.f kj20 t319 t320 t338 t324 t325 1).bind fun t354 => (if t354 < 0 then (some false) else (if t354 = t337 then (some true) else (some false)))) else (some false))) = some r := H
          have A71 := Aside0.mk A710
          clear A710
          replace H := Option.bind_eq_some_iff.mp H
          obtain ⟨t353, A720, H⟩ := H
          replace H : (if t353 = true then ((laws_heldDialbackOut.f kj20 t319 t320 t338 t324 t325 1).bind fun t354 => (if t354 < 0 then (some false) else (if t354 = t337 then (some true) else (some false)))) else (some false)) = some r := H
          have A72 := Aside0.mk A720
          clear A720
          by_cases c73 : t353 = true
          ·
           subst c73
           have H1 : ((laws_heldDialbackOut.f kj20 t319 t320 t338 t324 t325 1).bind fun t354 => (if t354 < 0 then (some false) else (if t354 = t337 then (some true) else (some false)))) = some r := by rw [if_pos rfl] at H; exact H
           clear H
           have H := H1
           clear H1
           replace H := Option.bind_eq_some_iff.mp H
           obtain ⟨t354, A740, H⟩ := H
           replace H : (if t354 < 0 then (some false) else (if t354 = t337 then (some true) else (some false))) = some r := H
           have A74 := Aside0.mk A740
           clear A740
           by_cases c75 : t354 < 0
           ·
            rw [if_pos c75] at H
            have c75b0 : decide (t354 < 0) = true := decide_eq_true c75
            clear c75
            exact absurd ((Option.some.inj H).trans hrt.out) (by decide)
           ·
            rw [if_neg c75] at H
            have c75b0 : decide (t354 < 0) = false := decide_eq_false c75
            clear c75
            by_cases c76 : t354 = t337
            ·
             rw [if_pos c76] at H
             have c76b0 : (t354 == t337) = true := beq_iff_eq.mpr c76
             have c76b1 : (t354 != t337) = false := bne_eq_false_iff_eq.mpr c76
             clear c76
             obtain rfl := Option.some.inj H
             have hnb77 := NB326_298.out
             have hnc77 := NB298_326.out
             have hnb78 := NB326_312.out
             have hnc78 := NB312_326.out
             have hnb79 := NB326_318.out
             have hnc79 := NB318_326.out
             have hcz80_0 := bcq_11 BK326.out 0
             have hcz80_1 := bcq_11 BK326.out 1
             have hcz80_2 := bcq_11 BK326.out 2
             have hcz80_3 := bcq_11 BK326.out 3
             have hcz80_4 := bcq_11 BK326.out 4
             have hfz80_0 := blk_frozen BK326.out 0
             have hfz80_1 := blk_frozen BK326.out 1
             have hfz80_2 := blk_frozen BK326.out 2
             have hfz80_3 := blk_frozen BK326.out 3
             have hfz80_4 := blk_frozen BK326.out 4
             go_wp2_with (first | ((with_reducible refine gate_callee (f := 30) rfl ?_); refine goesL_ (some 56) rfl rfl Tryd.func30 (by kernel_rfl) rfl #[.agg #[.string t319, .int .i64 t320, .slice Ao46 t321.length co46, .int .i64 t324, .int .i64 t325], .int .i64 1] rfl zb2_11 ?_; (with_reducible refine (laws_markDialbackOut.calls kj20 t319 t320 (fun k_ => some k_ = (.slice Ao46 t321.length co46 : Value).ownBlock) (.slice Ao46 t321.length co46) t321 t324 t325 1 t337 t338 w _ ?side1 ?side2 A66.out).mono ?_); (case side1 => repeat (first | (with_reducible first | exact HB.out | apply below_alloc | apply pw_below_drewN | apply below_drew1 | refine below_set ?_ GE298.out | refine below_set ?_ GE312.out | refine below_set ?_ GE318.out | refine below_set ?_ GE326.out) | exact HB.out)); (case side2 => exact Kd.R_tight rfl HO_327002.out); rintro e w81 ⟨rfl, hy0, hb, hkp⟩; refine ⟨_, rfl, ?_⟩; have n0_ := Aside0.mk (Kd.R_mono (ok' := fun k_ => some k_ ≠ (.slice Ao39 t335.length co39 : Value).ownBlock ∧ some k_ ≠ (.slice Ao46 t321.length co46 : Value).ownBlock) (Kd.R_keptB (HO_313002.out) hkp (fun k_ hk_ hs_ => (hk_.2) hs_)) (fun k_ hk_ => ⟨hk_.1.1, hk_.1.2⟩)); have n1_ := Aside0.mk (Kd.R_mono (ok' := fun k_ => some k_ ≠ (.slice Ao32 t307.length co32 : Value).ownBlock ∧ some k_ ≠ (.slice Ao46 t321.length co46 : Value).ownBlock) (Kd.R_keptB (HO_319002.out) hkp (fun k_ hk_ hs_ => (hk_.2) hs_)) (fun k_ hk_ => ⟨hk_.1.1, hk_.1.2⟩)); have n2_ := Aside0.mk (Kd.R_reok rfl hy0 (fun k_ e_ => HO_327002.out.1 k_ e_)); have n3_ := Aside0.mk (blk_kept zb3_11 hkp (fun hs_ => (fun e_ => (Kd.R_ne HO_327002.out BK298.out (by decide)) e_) hs_)); have n4_ := Aside0.mk (blk_kept zb11_11 hkp (fun hs_ => (fun e_ => (Kd.R_ne HO_327002.out BK312.out (by decide)) e_) hs_)); have n5_ := Aside0.mk (blk_kept zb17_11 hkp (fun hs_ => (fun e_ => (Kd.R_ne HO_327002.out BK318.out (by decide)) e_) hs_)); have n6_ := Aside0.mk (blk_kept zb19_11 hkp (fun hs_ => (fun e_ => (Kd.R_ne HO_327002.out BK326.out (by decide)) e_) hs_)); have n7_ := Aside0.mk (hb); clear HO_313002; clear HO_319002; clear HO_327002; clear BK298; clear BK312; clear BK318; clear BK326; clear HB; have HO_313002 := n0_; have HO_319002 := n1_; have HO_327002 := n2_; have BK298 := n3_; have BK312 := n4_; have BK318 := n5_; have BK326 := n6_; have HB := n7_; clear n0_ n1_ n2_ n3_ n4_ n5_ n6_ n7_; (try clear hb); (try clear hkp); (try clear hy0); have hcz82_0 := bcq_11 BK326.out 0; have hcz82_1 := bcq_11 BK326.out 1; have hcz82_2 := bcq_11 BK326.out 2; have hcz82_3 := bcq_11 BK326.out 3; have hcz82_4 := bcq_11 BK326.out 4; have hfz82_0 := blk_frozen BK326.out 0; have hfz82_1 := blk_frozen BK326.out 1; have hfz82_2 := blk_frozen BK326.out 2; have hfz82_3 := blk_frozen BK326.out 3; have hfz82_4 := blk_frozen BK326.out 4) | ((with_reducible refine gate_callee (f := 31) rfl ?_); refine goesL_ (some 59) rfl rfl Tryd.func31 (by kernel_rfl) rfl #[.agg #[.string t319, .int .i64 t320, .slice Ao46 t338.length co46, .int .i64 t324, .int .i64 t325], .int .i64 1] rfl (by (try simp only [List.map_toArray, List.map_cons, List.map_nil]); first | done | (rw [show t338.length = t321.length from (Kd.R_reads' HO_327002.out).1.symm] <;> rfl) | rfl | (simp only [List.length_drop, List.length_take]; rfl)) ?_; (with_reducible refine (laws_heldDialbackOut.calls kj20 t319 t320 _ _ t338 t324 t325 1 t339 _ ?side1 ?side2 A67.out).mono ?_); (case side1 => repeat (first | exact (Kd.R_reads' HO_327002.out).2.2 | (with_reducible refine Kd.C_alloc ?_ _) | (with_reducible refine Kd.C_drewN ?_ _) | (with_reducible refine Kd.C_drew ?_))); (case side2 => rw [show t338.length = t321.length from (Kd.R_reads' HO_327002.out).1.symm]; exact (Kd.R_reads' HO_327002.out).2.1); rintro e w83 ⟨rfl, hb⟩; refine ⟨_, rfl, ?_⟩; have n0_ := Aside0.mk (Kd.R_below zb20_11 hb); have n1_ := Aside0.mk (Kd.R_below zb21_11 hb); have n2_ := Aside0.mk (Kd.R_below zb22_11 hb); have n3_ := Aside0.mk (blk_below (g := gb298) (o := .cells #[.string a0_0, .int .i64 a0_1, .slice A0_2 l0_2.length c0_2] 35 (0, 0)) zb3_11 hb); have n4_ := Aside0.mk (blk_below (g := gb312) (o := .cells #[.string t305, .int .i64 t306, .slice Ao32 t307.length co32, .int .i64 t310, .int .i64 t311] 51 (0, 0)) zb11_11 hb); have n5_ := Aside0.mk (blk_below (g := gb318) (o := .cells #[.string t313, .int .i64 t314, .slice Ao39 t335.length co39] 40 (0, 0)) zb17_11 hb); have n6_ := Aside0.mk (blk_below (g := gb326) (o := .cells #[.string t319, .int .i64 t320, .slice Ao46 t321.length co46, .int .i64 t324, .int .i64 t325] 51 (0, 0)) zb19_11 hb); have n7_ := Aside0.mk (below_step zb18_11 hb); clear HO_313002; clear HO_319002; clear HO_327002; clear BK298; clear BK312; clear BK318; clear BK326; clear HB; have HO_313002 := n0_; have HO_319002 := n1_; have HO_327002 := n2_; have BK298 := n3_; have BK312 := n4_; have BK318 := n5_; have BK326 := n6_; have HB := n7_; clear n0_ n1_ n2_ n3_ n4_ n5_ n6_ n7_; (try clear hb); (try clear hb2); (try clear hk); (try clear hi); have hnb84 := NB298_312.out; have hnc84 := NB312_298.out; have hnb85 := NB298_318.out; have hnc85 := NB318_298.out; have hcz86_0 := bcq_11 BK298.out 0; have hcz86_1 := bcq_11 BK298.out 1; have hcz86_2 := bcq_11 BK298.out 2; have hfz86_0 := blk_frozen BK298.out 0; have hfz86_1 := blk_frozen BK298.out 1; have hfz86_2 := blk_frozen BK298.out 2) | ((with_reducible refine gate_callee (f := 17) rfl ?_); refine goesL_ (some 66) rfl rfl Tryd.func17 (by kernel_rfl) rfl #[.agg #[.string a0_0, .int .i64 a0_1, .slice A0_2 l0_2.length c0_2]] rfl zb2_11 ?_; (with_reducible refine (laws_toDialback.calls kj20 a0_0 a0_1 _ _ l0_2 t340 t341 t342 _ ?side1 ?side2 A70.out).mono ?_); (case side1 => repeat (first | exact (Kd.C_below HR0_2.out HB.out) | (with_reducible refine Kd.C_alloc ?_ _) | (with_reducible refine Kd.C_drewN ?_ _) | (with_reducible refine Kd.C_drew ?_))); (case side2 => exact HC0_2.out); rintro e w87 ⟨v343, rfl, ho0, hb⟩; refine ⟨_, rfl, ?_⟩; have n0_ := Aside0.mk (Kd.R_elder' zb20_11 (Kd.R_base ho0) hb); have n1_ := Aside0.mk (Kd.R_elder' zb21_11 (Kd.R_base ho0) hb); have n2_ := Aside0.mk (Kd.R_elder' zb22_11 (Kd.R_base ho0) hb); have n3_ := Aside0.mk (Kd.R_lower (Kd.R_new' (Kd.R_new' (Kd.R_new' ho0 (Kd.R_lt zb20_11)) (Kd.R_lt zb21_11)) (Kd.R_lt zb22_11)) (below_size zb18_11)); have n4_ := Aside0.mk (blk_below (g := gb298) (o := .cells #[.string a0_0, .int .i64 a0_1, .slice A0_2 l0_2.length c0_2] 35 (0, 0)) zb3_11 hb); have n5_ := Aside0.mk (blk_below (g := gb312) (o := .cells #[.string t305, .int .i64 t306, .slice Ao32 t307.length co32, .int .i64 t310, .int .i64 t311] 51 (0, 0)) zb11_11 hb); have n6_ := Aside0.mk (blk_below (g := gb318) (o := .cells #[.string t313, .int .i64 t314, .slice Ao39 t335.length co39] 40 (0, 0)) zb17_11 hb); have n7_ := Aside0.mk (blk_below (g := gb326) (o := .cells #[.string t319, .int .i64 t320, .slice Ao46 t321.length co46, .int .i64 t324, .int .i64 t325] 51 (0, 0)) zb19_11 hb); have n8_ := Aside0.mk (below_step zb18_11 hb); clear HO_313002; clear HO_319002; clear HO_327002; clear BK298; clear BK312; clear BK318; clear BK326; clear HB; have HO_313002 := n0_; have HO_319002 := n1_; have HO_327002 := n2_; have HO344 := n3_; have BK298 := n4_; have BK312 := n5_; have BK318 := n6_; have BK326 := n7_; have HB := n8_; clear n0_ n1_ n2_ n3_ n4_ n5_ n6_ n7_ n8_; (try clear hb); (try clear hb2); (try clear hk); (try clear hi); (try clear ho0); obtain ⟨Ao88, co88, eo88⟩ := Kd.R_slice HO344.out; subst eo88) | ((with_reducible refine gate_callee (f := 35) rfl ?_); refine goesL_ (some 69) rfl rfl Tryd.func35 (by kernel_rfl) rfl #[.agg #[.string t340, .int .i64 t341, .slice Ao88 t342.length co88], .int .i64 a1, .string a2] rfl zb2_11 ?_; (with_reducible refine (impl_DbResult.calls kj20 t340 t341 _ _ t342 a1 a2 t345 t346 t347 t350 t351 _ ?side1 ?side2 A71.out (by first | exact hmx | exact hmx.below HB.out | exact hmx.below (by repeat (first | (with_reducible first | exact HB.out | apply below_alloc | apply pw_below_drewN | apply below_drew1 | refine below_set ?_ GE298.out | refine below_set ?_ GE312.out | refine below_set ?_ GE318.out | refine below_set ?_ GE326.out | refine below_set ?_ GE352.out | exact Below.refl _ _) | exact HB.out | exact Below.refl _ _)))).mono ?_); (case side1 => repeat (first | exact (Kd.R_reads' HO344.out).2.2 | (with_reducible refine Kd.C_alloc ?_ _) | (with_reducible refine Kd.C_drewN ?_ _) | (with_reducible refine Kd.C_drew ?_))); (case side2 => exact (Kd.R_reads' HO344.out).2.1); rintro e w89 ⟨v348, rfl, ho0, hb⟩; refine ⟨_, rfl, ?_⟩; have n0_ := Aside0.mk (Kd.R_elder' zb20_11 (Kd.R_base ho0) hb); have n1_ := Aside0.mk (Kd.R_elder' zb21_11 (Kd.R_base ho0) hb); have n2_ := Aside0.mk (Kd.R_elder' zb22_11 (Kd.R_base ho0) hb); have n3_ := Aside0.mk (Kd.R_elder' zb23_11 (Kd.R_base ho0) hb); have n4_ := Aside0.mk (Kd.R_lower (Kd.R_new' (Kd.R_new' (Kd.R_new' (Kd.R_new' ho0 (Kd.R_lt zb20_11)) (Kd.R_lt zb21_11)) (Kd.R_lt zb22_11)) (Kd.R_lt zb23_11)) (below_size zb18_11)); have n5_ := Aside0.mk (blk_below (g := gb298) (o := .cells #[.string a0_0, .int .i64 a0_1, .slice A0_2 l0_2.length c0_2] 35 (0, 0)) zb3_11 hb); have n6_ := Aside0.mk (blk_below (g := gb312) (o := .cells #[.string t305, .int .i64 t306, .slice Ao32 t307.length co32, .int .i64 t310, .int .i64 t311] 51 (0, 0)) zb11_11 hb); have n7_ := Aside0.mk (blk_below (g := gb318) (o := .cells #[.string t313, .int .i64 t314, .slice Ao39 t335.length co39] 40 (0, 0)) zb17_11 hb); have n8_ := Aside0.mk (blk_below (g := gb326) (o := .cells #[.string t319, .int .i64 t320, .slice Ao46 t321.length co46, .int .i64 t324, .int .i64 t325] 51 (0, 0)) zb19_11 hb); have n9_ := Aside0.mk (below_step zb18_11 hb); clear HO_313002; clear HO_319002; clear HO_327002; clear HO344; clear BK298; clear BK312; clear BK318; clear BK326; clear HB; have HO_313002 := n0_; have HO_319002 := n1_; have HO_327002 := n2_; have HO344 := n3_; have HO349 := n4_; have BK298 := n5_; have BK312 := n6_; have BK318 := n7_; have BK326 := n8_; have HB := n9_; clear n0_ n1_ n2_ n3_ n4_ n5_ n6_ n7_ n8_ n9_; (try clear hb); (try clear hb2); (try clear hk); (try clear hi); (try clear ho0)) | ((with_reducible refine gate_dst (N := 14) rfl ?_); refine box_event ?hg (N := 14) ?hd (cs := #[.string (⟨#[]⟩ : ByteArray), .int .i64 0, .slice none 0 0, .int .i64 0, .int .i64 0]) (t := 51) ?hr ?_; (case hd => rfl); (case hg => rfl); (case hr => first | (go_simp; done) | (go_simp; rfl)); intro gb352 hg w90 hbox hb; have n0_ := Aside0.mk (Kd.R_below zb20_11 hb); have n1_ := Aside0.mk (Kd.R_below zb21_11 hb); have n2_ := Aside0.mk (Kd.R_below zb22_11 hb); have n3_ := Aside0.mk (Kd.R_below zb23_11 hb); have n4_ := Aside0.mk (Kd.R_below (by (with_reducible repeat (first | apply Kd.R_alloc | apply Kd.R_drewN | apply Kd.R_drew)); exact HO349.out) hb); have n5_ := Aside0.mk (blk_below (g := gb298) (o := .cells #[.string a0_0, .int .i64 a0_1, .slice A0_2 l0_2.length c0_2] 35 (0, 0)) zb3_11 hb); have n6_ := Aside0.mk (blk_below (g := gb312) (o := .cells #[.string t305, .int .i64 t306, .slice Ao32 t307.length co32, .int .i64 t310, .int .i64 t311] 51 (0, 0)) zb11_11 hb); have n7_ := Aside0.mk (blk_below (g := gb318) (o := .cells #[.string t313, .int .i64 t314, .slice Ao39 t335.length co39] 40 (0, 0)) zb17_11 hb); have n8_ := Aside0.mk (blk_below (g := gb326) (o := .cells #[.string t319, .int .i64 t320, .slice Ao46 t321.length co46, .int .i64 t324, .int .i64 t325] 51 (0, 0)) zb19_11 hb); have n9_ := Aside0.mk (below_step zb18_11 hb); have n10_ := Aside0.mk (hbox); have n11_ := Aside0.mk ((by rw [hg]; exact (below_size zb18_11) : w.heap.size ≤ gb352)); have n12_ := Aside0.mk ((by rw [hg]; exact (below_size zb18_11) : w.heap.size ≤ gb352)); have n13_ := Aside0.mk ((zb7_11 : gb298 ≠ gb352)); have n14_ := Aside0.mk ((zb8_11 : gb352 ≠ gb298)); have n15_ := Aside0.mk ((zb12_11 : gb312 ≠ gb352)); have n16_ := Aside0.mk ((zb13_11 : gb352 ≠ gb312)); have n17_ := Aside0.mk ((by rw [hg]; exact Nat.ne_of_lt (blk_lt (g := gb318) (o := .cells #[.string t313, .int .i64 t314, .slice Ao39 t335.length co39] 40 (0, 0)) zb17_11) : gb318 ≠ gb352)); have n18_ := Aside0.mk ((by rw [hg]; exact Nat.ne_of_gt (blk_lt (g := gb318) (o := .cells #[.string t313, .int .i64 t314, .slice Ao39 t335.length co39] 40 (0, 0)) zb17_11) : gb352 ≠ gb318)); have n19_ := Aside0.mk ((by rw [hg]; exact Nat.ne_of_lt (blk_lt (g := gb326) (o := .cells #[.string t319, .int .i64 t320, .slice Ao46 t321.length co46, .int .i64 t324, .int .i64 t325] 51 (0, 0)) zb19_11) : gb326 ≠ gb352)); have n20_ := Aside0.mk ((by rw [hg]; exact Nat.ne_of_gt (blk_lt (g := gb326) (o := .cells #[.string t319, .int .i64 t320, .slice Ao46 t321.length co46, .int .i64 t324, .int .i64 t325] 51 (0, 0)) zb19_11) : gb352 ≠ gb326)); clear HO_313002; clear HO_319002; clear HO_327002; clear HO344; clear HO349; clear BK298; clear BK312; clear BK318; clear BK326; clear HB; have HO_313002 := n0_; have HO_319002 := n1_; have HO_327002 := n2_; have HO344 := n3_; have HO349 := n4_; have BK298 := n5_; have BK312 := n6_; have BK318 := n7_; have BK326 := n8_; have HB := n9_; have BK352 := n10_; have GW352 := n11_; have GE352 := n12_; have NB298_352 := n13_; have NB352_298 := n14_; have NB312_352 := n15_; have NB352_312 := n16_; have NB318_352 := n17_; have NB352_318 := n18_; have NB326_352 := n19_; have NB352_326 := n20_; clear n0_ n1_ n2_ n3_ n4_ n5_ n6_ n7_ n8_ n9_ n10_ n11_ n12_ n13_ n14_ n15_ n16_ n17_ n18_ n19_ n20_; clear hb hbox hg; have hnb91 := NB352_298.out; have hnc91 := NB298_352.out; have hnb92 := NB352_312.out; have hnc92 := NB312_352.out; have hnb93 := NB352_318.out; have hnc93 := NB318_352.out; have hnb94 := NB352_326.out; have hnc94 := NB326_352.out; have hcz95_0 := bcq_11 BK352.out 0; have hcz95_1 := bcq_11 BK352.out 1; have hcz95_2 := bcq_11 BK352.out 2; have hcz95_3 := bcq_11 BK352.out 3; have hcz95_4 := bcq_11 BK352.out 4; have hfz95_0 := blk_frozen BK352.out 0; have hfz95_1 := blk_frozen BK352.out 1; have hfz95_2 := blk_frozen BK352.out 2; have hfz95_3 := blk_frozen BK352.out 3; have hfz95_4 := blk_frozen BK352.out 4; obtain ⟨Ao96, co96, eo96⟩ := Kd.R_slice HO349.out; subst eo96; have hnb97 := NB312_318.out; have hnc97 := NB318_312.out; have hcz98_0 := bcq_11 BK312.out 0; have hcz98_1 := bcq_11 BK312.out 1; have hcz98_2 := bcq_11 BK312.out 2; have hcz98_3 := bcq_11 BK312.out 3; have hcz98_4 := bcq_11 BK312.out 4; have hfz98_0 := blk_frozen BK312.out 0; have hfz98_1 := blk_frozen BK312.out 1; have hfz98_2 := blk_frozen BK312.out 2; have hfz98_3 := blk_frozen BK312.out 3; have hfz98_4 := blk_frozen BK312.out 4) | ((with_reducible refine gate_callee (f := 28) rfl ?_); refine goesL_ (some 72) rfl rfl Tryd.func28 (by kernel_rfl) rfl #[.agg #[.string t345, .int .i64 t346, .slice Ao96 t347.length co96, .int .i64 t350, .int .i64 t351], .agg #[.string t305, .int .i64 t306, .slice Ao32 t307.length co32, .int .i64 t310, .int .i64 t311]] rfl zb2_11 ?_; (with_reducible refine (laws_eqDialbackOut.calls kj20 t345 t346 _ _ t347 t350 t351 t305 t306 _ _ t307 t310 t311 true _ ?side1 ?side2 ?side3 ?side4 A72.out).mono ?_); (case side1 => refine (Kd.R_reads' (e := 71) (base := w.heap.size) (ok := fun k_ => ((((True ∧ some k_ ≠ (.slice Ao32 t307.length co32 : Value).ownBlock) ∧ some k_ ≠ (.slice Ao39 t335.length co39 : Value).ownBlock) ∧ some k_ ≠ (.slice Ao46 t321.length co46 : Value).ownBlock) ∧ some k_ ≠ (.slice Ao88 t342.length co88 : Value).ownBlock)) (n := t347.length) (c := co96) ?_).2.2; exact (by (with_reducible repeat (first | apply Kd.R_alloc | apply Kd.R_drewN | apply Kd.R_drew)); exact (Kd.R_mono (Kd.R_far (p := ⟨gb352, 4, none⟩) (Kd.R_far (p := ⟨gb352, 3, none⟩) (Kd.R_far (p := ⟨gb352, 2, none⟩) (Kd.R_far (p := ⟨gb352, 1, none⟩) (Kd.R_far (p := ⟨gb352, 0, none⟩) (Kd.R_types HO349.out BK352.out (by decide)) (fun _ hk => hk.2) (.string t345)) (fun _ hk => hk.2) (.int .i64 t346)) (fun _ hk => hk.2) (.slice Ao96 t347.length co96)) (fun _ hk => hk.2) (.int .i64 t350)) (fun _ hk => hk.2) (.int .i64 t351)) (fun _ h_ => h_.1)))); (case side2 => exact (Kd.R_reads' HO349.out).2.1); (case side3 => refine (Kd.R_reads' (e := 71) (base := w.heap.size) (ok := fun k_ => (((some k_ ≠ (.slice Ao39 t335.length co39 : Value).ownBlock ∧ some k_ ≠ (.slice Ao46 t321.length co46 : Value).ownBlock) ∧ some k_ ≠ (.slice Ao88 t342.length co88 : Value).ownBlock) ∧ some k_ ≠ (.slice Ao96 t347.length co96 : Value).ownBlock)) (n := t307.length) (c := co32) ?_).2.2; exact (by (with_reducible repeat (first | apply Kd.R_alloc | apply Kd.R_drewN | apply Kd.R_drew)); exact (Kd.R_mono (Kd.R_far (p := ⟨gb352, 4, none⟩) (Kd.R_far (p := ⟨gb352, 3, none⟩) (Kd.R_far (p := ⟨gb352, 2, none⟩) (Kd.R_far (p := ⟨gb352, 1, none⟩) (Kd.R_far (p := ⟨gb352, 0, none⟩) (Kd.R_types HO_313002.out BK352.out (by decide)) (fun _ hk => hk.2) (.string t345)) (fun _ hk => hk.2) (.int .i64 t346)) (fun _ hk => hk.2) (.slice Ao96 t347.length co96)) (fun _ hk => hk.2) (.int .i64 t350)) (fun _ hk => hk.2) (.int .i64 t351)) (fun _ h_ => h_.1)))); (case side4 => exact (Kd.R_reads' HO_313002.out).2.1); rintro e w99 ⟨rfl, hb⟩; refine ⟨_, rfl, ?_⟩; have n0_ := Aside0.mk (Kd.R_below (by (with_reducible repeat (first | apply Kd.R_alloc | apply Kd.R_drewN | apply Kd.R_drew)); exact (Kd.R_mono (Kd.R_far (p := ⟨gb352, 4, none⟩) (Kd.R_far (p := ⟨gb352, 3, none⟩) (Kd.R_far (p := ⟨gb352, 2, none⟩) (Kd.R_far (p := ⟨gb352, 1, none⟩) (Kd.R_far (p := ⟨gb352, 0, none⟩) (Kd.R_types HO_313002.out BK352.out (by decide)) (fun _ hk => hk.2) (.string t345)) (fun _ hk => hk.2) (.int .i64 t346)) (fun _ hk => hk.2) (.slice Ao96 t347.length co96)) (fun _ hk => hk.2) (.int .i64 t350)) (fun _ hk => hk.2) (.int .i64 t351)) (fun _ h_ => h_.1))) hb); have n1_ := Aside0.mk (Kd.R_below (by (with_reducible repeat (first | apply Kd.R_alloc | apply Kd.R_drewN | apply Kd.R_drew)); exact (Kd.R_mono (Kd.R_far (p := ⟨gb352, 4, none⟩) (Kd.R_far (p := ⟨gb352, 3, none⟩) (Kd.R_far (p := ⟨gb352, 2, none⟩) (Kd.R_far (p := ⟨gb352, 1, none⟩) (Kd.R_far (p := ⟨gb352, 0, none⟩) (Kd.R_types HO_319002.out BK352.out (by decide)) (fun _ hk => hk.2) (.string t345)) (fun _ hk => hk.2) (.int .i64 t346)) (fun _ hk => hk.2) (.slice Ao96 t347.length co96)) (fun _ hk => hk.2) (.int .i64 t350)) (fun _ hk => hk.2) (.int .i64 t351)) (fun _ h_ => h_.1))) hb); have n2_ := Aside0.mk (Kd.R_below (by (with_reducible repeat (first | apply Kd.R_alloc | apply Kd.R_drewN | apply Kd.R_drew)); exact (Kd.R_mono (Kd.R_far (p := ⟨gb352, 4, none⟩) (Kd.R_far (p := ⟨gb352, 3, none⟩) (Kd.R_far (p := ⟨gb352, 2, none⟩) (Kd.R_far (p := ⟨gb352, 1, none⟩) (Kd.R_far (p := ⟨gb352, 0, none⟩) (Kd.R_types HO_327002.out BK352.out (by decide)) (fun _ hk => hk.2) (.string t345)) (fun _ hk => hk.2) (.int .i64 t346)) (fun _ hk => hk.2) (.slice Ao96 t347.length co96)) (fun _ hk => hk.2) (.int .i64 t350)) (fun _ hk => hk.2) (.int .i64 t351)) (fun _ h_ => h_.1))) hb); have n3_ := Aside0.mk (Kd.R_below (by (with_reducible repeat (first | apply Kd.R_alloc | apply Kd.R_drewN | apply Kd.R_drew)); exact (Kd.R_mono (Kd.R_far (p := ⟨gb352, 4, none⟩) (Kd.R_far (p := ⟨gb352, 3, none⟩) (Kd.R_far (p := ⟨gb352, 2, none⟩) (Kd.R_far (p := ⟨gb352, 1, none⟩) (Kd.R_far (p := ⟨gb352, 0, none⟩) (Kd.R_types HO344.out BK352.out (by decide)) (fun _ hk => hk.2) (.string t345)) (fun _ hk => hk.2) (.int .i64 t346)) (fun _ hk => hk.2) (.slice Ao96 t347.length co96)) (fun _ hk => hk.2) (.int .i64 t350)) (fun _ hk => hk.2) (.int .i64 t351)) (fun _ h_ => h_.1))) hb); have n4_ := Aside0.mk (Kd.R_below (by (with_reducible repeat (first | apply Kd.R_alloc | apply Kd.R_drewN | apply Kd.R_drew)); exact (Kd.R_mono (Kd.R_far (p := ⟨gb352, 4, none⟩) (Kd.R_far (p := ⟨gb352, 3, none⟩) (Kd.R_far (p := ⟨gb352, 2, none⟩) (Kd.R_far (p := ⟨gb352, 1, none⟩) (Kd.R_far (p := ⟨gb352, 0, none⟩) (Kd.R_types HO349.out BK352.out (by decide)) (fun _ hk => hk.2) (.string t345)) (fun _ hk => hk.2) (.int .i64 t346)) (fun _ hk => hk.2) (.slice Ao96 t347.length co96)) (fun _ hk => hk.2) (.int .i64 t350)) (fun _ hk => hk.2) (.int .i64 t351)) (fun _ h_ => h_.1))) hb); have n5_ := Aside0.mk (blk_below (g := gb298) (o := .cells #[.string a0_0, .int .i64 a0_1, .slice A0_2 l0_2.length c0_2] 35 (0, 0)) (by (with_reducible repeat (first | refine blk_drewN ?_ _ | refine blk_drew ?_ | refine blk_alloc ?_ _)); refine blk_far ?_ NB298_352.out _; (with_reducible repeat (first | refine blk_drewN ?_ _ | refine blk_drew ?_ | refine blk_alloc ?_ _)); refine blk_far ?_ NB298_352.out _; (with_reducible repeat (first | refine blk_drewN ?_ _ | refine blk_drew ?_ | refine blk_alloc ?_ _)); refine blk_far ?_ NB298_352.out _; (with_reducible repeat (first | refine blk_drewN ?_ _ | refine blk_drew ?_ | refine blk_alloc ?_ _)); refine blk_far ?_ NB298_352.out _; (with_reducible repeat (first | refine blk_drewN ?_ _ | refine blk_drew ?_ | refine blk_alloc ?_ _)); refine blk_far ?_ NB298_352.out _; (with_reducible repeat (first | refine blk_drewN ?_ _ | refine blk_drew ?_ | refine blk_alloc ?_ _)); exact BK298.out) hb); have n6_ := Aside0.mk (blk_below (g := gb312) (o := .cells #[.string t305, .int .i64 t306, .slice Ao32 t307.length co32, .int .i64 t310, .int .i64 t311] 51 (0, 0)) (by (with_reducible repeat (first | refine blk_drewN ?_ _ | refine blk_drew ?_ | refine blk_alloc ?_ _)); refine blk_far ?_ NB312_352.out _; (with_reducible repeat (first | refine blk_drewN ?_ _ | refine blk_drew ?_ | refine blk_alloc ?_ _)); refine blk_far ?_ NB312_352.out _; (with_reducible repeat (first | refine blk_drewN ?_ _ | refine blk_drew ?_ | refine blk_alloc ?_ _)); refine blk_far ?_ NB312_352.out _; (with_reducible repeat (first | refine blk_drewN ?_ _ | refine blk_drew ?_ | refine blk_alloc ?_ _)); refine blk_far ?_ NB312_352.out _; (with_reducible repeat (first | refine blk_drewN ?_ _ | refine blk_drew ?_ | refine blk_alloc ?_ _)); refine blk_far ?_ NB312_352.out _; (with_reducible repeat (first | refine blk_drewN ?_ _ | refine blk_drew ?_ | refine blk_alloc ?_ _)); exact BK312.out) hb); have n7_ := Aside0.mk (blk_below (g := gb318) (o := .cells #[.string t313, .int .i64 t314, .slice Ao39 t335.length co39] 40 (0, 0)) (by (with_reducible repeat (first | refine blk_drewN ?_ _ | refine blk_drew ?_ | refine blk_alloc ?_ _)); refine blk_far ?_ NB318_352.out _; (with_reducible repeat (first | refine blk_drewN ?_ _ | refine blk_drew ?_ | refine blk_alloc ?_ _)); refine blk_far ?_ NB318_352.out _; (with_reducible repeat (first | refine blk_drewN ?_ _ | refine blk_drew ?_ | refine blk_alloc ?_ _)); refine blk_far ?_ NB318_352.out _; (with_reducible repeat (first | refine blk_drewN ?_ _ | refine blk_drew ?_ | refine blk_alloc ?_ _)); refine blk_far ?_ NB318_352.out _; (with_reducible repeat (first | refine blk_drewN ?_ _ | refine blk_drew ?_ | refine blk_alloc ?_ _)); refine blk_far ?_ NB318_352.out _; (with_reducible repeat (first | refine blk_drewN ?_ _ | refine blk_drew ?_ | refine blk_alloc ?_ _)); exact BK318.out) hb); have n8_ := Aside0.mk (blk_below (g := gb326) (o := .cells #[.string t319, .int .i64 t320, .slice Ao46 t321.length co46, .int .i64 t324, .int .i64 t325] 51 (0, 0)) (by (with_reducible repeat (first | refine blk_drewN ?_ _ | refine blk_drew ?_ | refine blk_alloc ?_ _)); refine blk_far ?_ NB326_352.out _; (with_reducible repeat (first | refine blk_drewN ?_ _ | refine blk_drew ?_ | refine blk_alloc ?_ _)); refine blk_far ?_ NB326_352.out _; (with_reducible repeat (first | refine blk_drewN ?_ _ | refine blk_drew ?_ | refine blk_alloc ?_ _)); refine blk_far ?_ NB326_352.out _; (with_reducible repeat (first | refine blk_drewN ?_ _ | refine blk_drew ?_ | refine blk_alloc ?_ _)); refine blk_far ?_ NB326_352.out _; (with_reducible repeat (first | refine blk_drewN ?_ _ | refine blk_drew ?_ | refine blk_alloc ?_ _)); refine blk_far ?_ NB326_352.out _; (with_reducible repeat (first | refine blk_drewN ?_ _ | refine blk_drew ?_ | refine blk_alloc ?_ _)); exact BK326.out) hb); have n9_ := Aside0.mk (blk_below (g := gb352) (o := .cells #[.string t345, .int .i64 t346, .slice Ao96 t347.length co96, .int .i64 t350, .int .i64 t351] 51 (0, 0)) (by (with_reducible repeat (first | refine blk_drewN ?_ _ | refine blk_drew ?_ | refine blk_alloc ?_ _)); refine blk_put (cs := #[.string t345, .int .i64 t346, .slice Ao96 t347.length co96, .int .i64 t350, .int .i64 0]) ?_ 4 _ rfl; (with_reducible repeat (first | refine blk_drewN ?_ _ | refine blk_drew ?_ | refine blk_alloc ?_ _)); refine blk_put (cs := #[.string t345, .int .i64 t346, .slice Ao96 t347.length co96, .int .i64 0, .int .i64 0]) ?_ 3 _ rfl; (with_reducible repeat (first | refine blk_drewN ?_ _ | refine blk_drew ?_ | refine blk_alloc ?_ _)); refine blk_put (cs := #[.string t345, .int .i64 t346, .slice none 0 0, .int .i64 0, .int .i64 0]) ?_ 2 _ rfl; (with_reducible repeat (first | refine blk_drewN ?_ _ | refine blk_drew ?_ | refine blk_alloc ?_ _)); refine blk_put (cs := #[.string t345, .int .i64 0, .slice none 0 0, .int .i64 0, .int .i64 0]) ?_ 1 _ rfl; (with_reducible repeat (first | refine blk_drewN ?_ _ | refine blk_drew ?_ | refine blk_alloc ?_ _)); refine blk_put (cs := #[.string (⟨#[]⟩ : ByteArray), .int .i64 0, .slice none 0 0, .int .i64 0, .int .i64 0]) ?_ 0 _ rfl; (with_reducible repeat (first | refine blk_drewN ?_ _ | refine blk_drew ?_ | refine blk_alloc ?_ _)); exact BK352.out) hb); have n10_ := Aside0.mk (below_step (by repeat (first | (with_reducible first | exact HB.out | apply below_alloc | apply pw_below_drewN | apply below_drew1 | refine below_set ?_ GE298.out | refine below_set ?_ GE312.out | refine below_set ?_ GE318.out | refine below_set ?_ GE326.out | refine below_set ?_ GE352.out) | exact HB.out)) hb); clear HO_313002; clear HO_319002; clear HO_327002; clear HO344; clear HO349; clear BK298; clear BK312; clear BK318; clear BK326; clear BK352; clear HB; have HO_313002 := n0_; have HO_319002 := n1_; have HO_327002 := n2_; have HO344 := n3_; have HO349 := n4_; have BK298 := n5_; have BK312 := n6_; have BK318 := n7_; have BK326 := n8_; have BK352 := n9_; have HB := n10_; clear n0_ n1_ n2_ n3_ n4_ n5_ n6_ n7_ n8_ n9_ n10_; (try clear hb); (try clear hb2); (try clear hk); (try clear hi); have hcz100_0 := bcq_11 BK326.out 0; have hcz100_1 := bcq_11 BK326.out 1; have hcz100_2 := bcq_11 BK326.out 2; have hcz100_3 := bcq_11 BK326.out 3; have hcz100_4 := bcq_11 BK326.out 4; have hfz100_0 := blk_frozen BK326.out 0; have hfz100_1 := blk_frozen BK326.out 1; have hfz100_2 := blk_frozen BK326.out 2; have hfz100_3 := blk_frozen BK326.out 3; have hfz100_4 := blk_frozen BK326.out 4) | ((with_reducible refine gate_callee (f := 31) rfl ?_); refine goesL_ (some 76) rfl rfl Tryd.func31 (by kernel_rfl) rfl #[.agg #[.string t319, .int .i64 t320, .slice Ao46 t338.length co46, .int .i64 t324, .int .i64 t325], .int .i64 1] rfl (by (try simp only [List.map_toArray, List.map_cons, List.map_nil]); first | done | (rw [show t338.length = t321.length from (Kd.R_reads' HO_327002.out).1.symm] <;> rfl) | rfl | (simp only [List.length_drop, List.length_take]; rfl)) ?_; (with_reducible refine (laws_heldDialbackOut.calls kj20 t319 t320 _ _ t338 t324 t325 1 t354 _ ?side1 ?side2 A74.out).mono ?_); (case side1 => repeat (first | exact (Kd.R_reads' HO_327002.out).2.2 | (with_reducible refine Kd.C_alloc ?_ _) | (with_reducible refine Kd.C_drewN ?_ _) | (with_reducible refine Kd.C_drew ?_))); (case side2 => rw [show t338.length = t321.length from (Kd.R_reads' HO_327002.out).1.symm]; exact (Kd.R_reads' HO_327002.out).2.1); rintro e w101 ⟨rfl, hb⟩; refine ⟨_, rfl, ?_⟩; have n0_ := Aside0.mk (Kd.R_below zb20_11 hb); have n1_ := Aside0.mk (Kd.R_below zb21_11 hb); have n2_ := Aside0.mk (Kd.R_below zb22_11 hb); have n3_ := Aside0.mk (Kd.R_below zb23_11 hb); have n4_ := Aside0.mk (Kd.R_below (by (with_reducible repeat (first | apply Kd.R_alloc | apply Kd.R_drewN | apply Kd.R_drew)); exact HO349.out) hb); have n5_ := Aside0.mk (blk_below (g := gb298) (o := .cells #[.string a0_0, .int .i64 a0_1, .slice A0_2 l0_2.length c0_2] 35 (0, 0)) zb3_11 hb); have n6_ := Aside0.mk (blk_below (g := gb312) (o := .cells #[.string t305, .int .i64 t306, .slice Ao32 t307.length co32, .int .i64 t310, .int .i64 t311] 51 (0, 0)) zb11_11 hb); have n7_ := Aside0.mk (blk_below (g := gb318) (o := .cells #[.string t313, .int .i64 t314, .slice Ao39 t335.length co39] 40 (0, 0)) zb17_11 hb); have n8_ := Aside0.mk (blk_below (g := gb326) (o := .cells #[.string t319, .int .i64 t320, .slice Ao46 t321.length co46, .int .i64 t324, .int .i64 t325] 51 (0, 0)) zb19_11 hb); have n9_ := Aside0.mk (blk_below (g := gb352) (o := .cells #[.string t345, .int .i64 t346, .slice Ao96 t347.length co96, .int .i64 t350, .int .i64 t351] 51 (0, 0)) (by (with_reducible repeat (first | refine blk_drewN ?_ _ | refine blk_drew ?_ | refine blk_alloc ?_ _)); exact BK352.out) hb); have n10_ := Aside0.mk (below_step (by repeat (first | (with_reducible first | exact HB.out | apply below_alloc | apply pw_below_drewN | apply below_drew1 | refine below_set ?_ GE298.out | refine below_set ?_ GE312.out | refine below_set ?_ GE318.out | refine below_set ?_ GE326.out | refine below_set ?_ GE352.out) | exact HB.out)) hb); clear HO_313002; clear HO_319002; clear HO_327002; clear HO344; clear HO349; clear BK298; clear BK312; clear BK318; clear BK326; clear BK352; clear HB; have HO_313002 := n0_; have HO_319002 := n1_; have HO_327002 := n2_; have HO344 := n3_; have HO349 := n4_; have BK298 := n5_; have BK312 := n6_; have BK318 := n7_; have BK326 := n8_; have BK352 := n9_; have HB := n10_; clear n0_ n1_ n2_ n3_ n4_ n5_ n6_ n7_ n8_ n9_ n10_; (try clear hb); (try clear hb2); (try clear hk); (try clear hi)))
             go_ret
             exact ⟨by first | rfl | (simp [errW_none, errW_some] <;> rfl) | (simp [*, errW_none, errW_some] <;> rfl), by repeat (first | (with_reducible first | exact HB.out | apply below_alloc | apply pw_below_drewN | apply below_drew1 | refine below_set ?_ GE298.out | refine below_set ?_ GE312.out | refine below_set ?_ GE318.out | refine below_set ?_ GE326.out | refine below_set ?_ GE352.out) | exact HB.out)⟩
            ·
             rw [if_neg c76] at H
             have c76b0 : (t354 == t337) = false := beq_eq_false_iff_ne.mpr c76
             have c76b1 : (t354 != t337) = true := bne_iff_ne.mpr c76
             exact absurd ((Option.some.inj H).trans hrt.out) (by decide)
          ·
           replace c73 := Bool.eq_false_iff.mpr c73
           subst c73
           have H1 : (some false) = some r := by rw [if_neg (show ¬ (false = true) by decide)] at H; exact H
           clear H
           have H := H1
           clear H1
           exact absurd ((Option.some.inj H).trans hrt.out) (by decide)
         ·
          rw [if_neg c69] at H
          have c69b0 : (t339 == t337) = false := beq_eq_false_iff_ne.mpr c69
          have c69b1 : (t339 != t337) = true := bne_iff_ne.mpr c69
          exact absurd ((Option.some.inj H).trans hrt.out) (by decide)
    ·
     replace c19 := Bool.eq_false_iff.mpr c19
     subst c19
     have H1 : (some false) = some r := by rw [if_neg (show ¬ (false = true) by decide)] at H; exact H
     clear H
     have H := H1
     clear H1
     exact absurd ((Option.some.inj H).trans hrt.out) (by decide)
   ·
    replace c16 := Bool.eq_false_iff.mpr c16
    subst c16
    have H1 : (some false) = some r := by rw [if_neg (show ¬ (false = true) by decide)] at H; exact H
    clear H
    have H := H1
    clear H1
    exact absurd ((Option.some.inj H).trans hrt.out) (by decide)

end Go.Proofs.YtjchggdekbnmnaaDoor.QFnExactDbResult
