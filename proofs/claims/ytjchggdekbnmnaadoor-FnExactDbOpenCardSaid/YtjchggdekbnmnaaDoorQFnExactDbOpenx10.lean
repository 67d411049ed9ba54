-- laid by this session's own runner (wip/print2.py): not a printed file
import Derived.Test.YtjchggdekbnmnaaDoorQFnExactDbOpenx0
import Derived.Test.YtjchggdekbnmnaaDoorQFnExactDbOpenx1
import Derived.Test.YtjchggdekbnmnaaDoorQFnExactDbOpenx2
import Derived.Test.YtjchggdekbnmnaaDoorQFnExactDbOpenx4
import Derived.Test.YtjchggdekbnmnaaDoorQFnExactDbOpenx8
import Derived.Test.YtjchggdekbnmnaaDoorQFnExactDbOpenx9
namespace Go.Proofs.YtjchggdekbnmnaaDoor.QFnExactDbOpen
open Go.RowKit Go.Proofs.YtjchggdekbnmnaaDoorW.PrintWords Go.Proofs.YtjchggdekbnmnaaDoorW.PrintLast Go.Proofs.YtjchggdekbnmnaaDoorW.PrintMore
attribute [local go_sem] max2_int min2_int max_two min_two max_three min_three max_four min_four   -- for this text's walks alone
set_option linter.unusedVariables false
set_option linter.unusedSimpArgs false

theorem zb0_10 {P : Prop} (h : P := by repeat (first | (with_reducible first | exact HB.out | apply below_alloc | apply pw_below_drewN | apply below_drew1) | exact HB.out)) : P := h
theorem zb1_10 {P : Prop} (h : P := by rw [hg]; exact (below_size (by repeat (first | (with_reducible first | exact HB.out | apply below_alloc | apply pw_below_drewN | apply below_drew1) | exact HB.out)))) : P := h
theorem zb2_10 {P : Prop} (h : P := by (try simp only [List.map_toArray, List.map_cons, List.map_nil]); first | done | rfl | (simp only [List.length_drop, List.length_take]; rfl)) : P := h
theorem zb3_10 {P : Prop} (h : P := by (with_reducible repeat (first | refine blk_drewN ?_ _ | refine blk_drew ?_ | refine blk_alloc ?_ _)); exact BK281.out) : P := h
theorem zb4_10 {P : Prop} (h : P := by repeat (first | (with_reducible first | exact HB.out | apply below_alloc | apply pw_below_drewN | apply below_drew1 | refine below_set ?_ GE281.out) | exact HB.out)) : P := h
theorem zb5_10 {P : Prop} (h : P := by (with_reducible repeat (first | apply Kd.R_alloc | apply Kd.R_drewN | apply Kd.R_drew)); exact HO287.out) : P := h
theorem zb6_10 {P : Prop} (h : P := by (with_reducible repeat (first | apply Kd.R_alloc | apply Kd.R_drewN | apply Kd.R_drew)); exact HO292.out) : P := h
theorem zb7_10 {P : Prop} (h : P := by rw [hg]; exact Nat.ne_of_lt (blk_lt (g := gb281) (o := .cells #[.string a0_0, .int .i64 a0_1, .slice A0_2 l0_2.length c0_2] 35 (0, 0)) (by (with_reducible repeat (first | refine blk_drewN ?_ _ | refine blk_drew ?_ | refine blk_alloc ?_ _)); exact BK281.out))) : P := h
theorem zb8_10 {P : Prop} (h : P := by rw [hg]; exact Nat.ne_of_gt (blk_lt (g := gb281) (o := .cells #[.string a0_0, .int .i64 a0_1, .slice A0_2 l0_2.length c0_2] 35 (0, 0)) (by (with_reducible repeat (first | refine blk_drewN ?_ _ | refine blk_drew ?_ | refine blk_alloc ?_ _)); exact BK281.out))) : P := h
theorem zb9_10 {P : Prop} (h : P := by repeat (first | (with_reducible first | exact HB.out | apply below_alloc | apply pw_below_drewN | apply below_drew1 | refine below_set ?_ GE281.out | refine below_set ?_ GE295.out) | exact HB.out)) : P := h
theorem zb10_10 {P : Prop} (h : P := by (with_reducible repeat (first | apply Kd.R_alloc | apply Kd.R_drewN | apply Kd.R_drew)); exact HO300.out) : P := h
theorem zb11_10 {P : Prop} (h : P := by (with_reducible repeat (first | refine blk_drewN ?_ _ | refine blk_drew ?_ | refine blk_alloc ?_ _)); exact BK295.out) : P := h
theorem zb12_10 {P : Prop} (h : P := by rw [hg]; exact Nat.ne_of_lt (blk_lt (g := gb295) (o := .cells #[.string t288, .int .i64 t289, .slice Ao31 t290.length co31, .int .i64 t293, .int .i64 t294] 51 (0, 0)) (by (with_reducible repeat (first | refine blk_drewN ?_ _ | refine blk_drew ?_ | refine blk_alloc ?_ _)); exact BK295.out))) : P := h
theorem zb13_10 {P : Prop} (h : P := by rw [hg]; exact Nat.ne_of_gt (blk_lt (g := gb295) (o := .cells #[.string t288, .int .i64 t289, .slice Ao31 t290.length co31, .int .i64 t293, .int .i64 t294] 51 (0, 0)) (by (with_reducible repeat (first | refine blk_drewN ?_ _ | refine blk_drew ?_ | refine blk_alloc ?_ _)); exact BK295.out))) : P := h
theorem zb14_10 {P : Prop} (h : P := by (with_reducible repeat (first | apply Kd.R_alloc | apply Kd.R_drewN | apply Kd.R_drew)); exact (Kd.R_mono (Kd.R_far (p := ⟨gb301, 2, none⟩) (Kd.R_far (p := ⟨gb301, 1, none⟩) (Kd.R_far (p := ⟨gb301, 0, none⟩) (Kd.R_types HO300.out BK301.out (by decide)) (fun _ hk => hk.2) (.string t296)) (fun _ hk => hk.2) (.int .i64 t297)) (fun _ hk => hk.2) (.slice Ao38 t298.length co38)) (fun _ h_ => h_.1))) : P := h
theorem zb15_10 {P : Prop} (h : P := by repeat (first | (with_reducible first | exact HB.out | apply below_alloc | apply pw_below_drewN | apply below_drew1 | refine below_set ?_ GE281.out | refine below_set ?_ GE295.out | refine below_set ?_ GE301.out) | exact HB.out)) : P := h
theorem zb16_10 {P : Prop} (h : P := by (with_reducible repeat (first | apply Kd.R_alloc | apply Kd.R_drewN | apply Kd.R_drew)); exact HO306.out) : P := h
theorem zb17_10 {P : Prop} (h : P := by (with_reducible repeat (first | refine blk_drewN ?_ _ | refine blk_drew ?_ | refine blk_alloc ?_ _)); exact BK301.out) : P := h
theorem zb18_10 {P : Prop} (h : P := by repeat (first | (with_reducible first | exact HB.out | apply below_alloc | apply pw_below_drewN | apply below_drew1 | refine below_set ?_ GE281.out | refine below_set ?_ GE295.out | refine below_set ?_ GE301.out | refine below_set ?_ GE309.out) | exact HB.out)) : P := h
theorem zb19_10 {P : Prop} (h : P := by (with_reducible repeat (first | refine blk_drewN ?_ _ | refine blk_drew ?_ | refine blk_alloc ?_ _)); exact BK309.out) : P := h
theorem zb20_10 {P : Prop} (h : P := by (with_reducible repeat (first | apply Kd.R_alloc | apply Kd.R_drewN | apply Kd.R_drew)); exact HO_296002.out) : P := h
theorem zb21_10 {P : Prop} (h : P := by (with_reducible repeat (first | apply Kd.R_alloc | apply Kd.R_drewN | apply Kd.R_drew)); exact HO_302002.out) : P := h
theorem zb22_10 {P : Prop} (h : P := by (with_reducible repeat (first | apply Kd.R_alloc | apply Kd.R_drewN | apply Kd.R_drew)); exact HO_310002.out) : P := h
theorem zb23_10 {P : Prop} (h : P := by (with_reducible repeat (first | apply Kd.R_alloc | apply Kd.R_drewN | apply Kd.R_drew)); exact HO327.out) : P := h
/-! ### laws_heldDialback: function 62 -/
def laws_heldDialback.f (k : Nat) (a0_0 : ByteArray) (a0_1 : Int) (l0_2 : List (S71)) (a1 : Int) : Option (Int) := (laws_heldPeerS.f k l0_2 a1).bind fun t278 => (if t278 < 0 then (some (-1)) else (some t278))
theorem laws_heldDialback.mono : ∀ a0 a1 a2 a3 k, LeO (laws_heldDialback.f k a0 a1 a2 a3) (laws_heldDialback.f (k + 1) a0 a1 a2 a3) := by
 intro a0 a1 a2 a3 k
 unfold laws_heldDialback.f
 repeat' first
   | (with_reducible exact laws_heldPeerS.mono _ _ _)
   | (with_reducible exact LeO.refl _)
   | (with_reducible exact LeO.none _)
   | (with_reducible refine LeO.ite ?_ ?_)
   | (with_reducible refine LeO.bind ?_ (fun _ => ?_))
   | exact laws_heldPeerS.mono _ _ _
   | exact LeO.none _
   | refine LeO.ite ?_ ?_
   | refine LeO.bind ?_ (fun _ => ?_)
set_option maxHeartbeats 8000000 in
set_option maxRecDepth 100000 in
theorem laws_heldDialback.calls (k : Nat) (a0_0 : ByteArray) (a0_1 : Int) (A0_2 : Option Addr) (c0_2 : Nat) (l0_2 : List (S71)) (a1 : Int) (r : Int) (w : World) (hr0_2 : Kd.C k71 w A0_2 l0_2.length l0_2) (hc0_2 : l0_2.length ≤ c0_2) (h : laws_heldDialback.f k a0_0 a0_1 l0_2 a1 = some r) :
  Calls Tryd.prog 62 #[.agg #[.string a0_0, .int .i64 a0_1, .slice A0_2 l0_2.length c0_2], .int .i64 a1] w fun e w' => e = .returned (.int .i64 r) ∧ Below w.heap.size w w' := by
 have hu40 := Tryd.underlying40
 have HR0_2 := Aside0.mk hr0_2
 have HC0_2 := Aside0.mk hc0_2
 clear hr0_2 hc0_2
 have HB := Aside0.mk (Below.refl w.heap.size w)
 have H : ((laws_heldPeerS.f k l0_2 a1).bind fun t278 => (if t278 < 0 then (some (-1)) else (some t278))) = some r := h
 clear h
 replace H := Option.bind_eq_some_iff.mp H
 obtain ⟨t278, A30, H⟩ := H
 replace H : (if t278 < 0 then (some (-1)) else (some t278)) = some r := H
 have A3 := Aside0.mk A30
 clear A30
 by_cases c4 : t278 < 0
 ·
  rw [if_pos c4] at H
  have c4b0 : decide (t278 < 0) = true := decide_eq_true c4
  clear c4
  obtain rfl := Option.some.inj H
  go_enter Tryd.func62, Tryd.ntmps62
  go_wp2_with (first | ((with_reducible refine gate_dst (N := 2) rfl ?_); refine box_event ?hg (N := 2) ?hd (cs := #[.string a0_0, .int .i64 a0_1, .slice A0_2 l0_2.length c0_2]) (t := 40) ?hr ?_; (case hd => rfl); (case hg => rfl); (case hr => first | (go_simp; done) | (go_simp; rfl)); intro gb277 hg w5 hbox hb; have n0_ := Aside0.mk (below_step zb0_10 hb); have n1_ := Aside0.mk (hbox); have n2_ := Aside0.mk ((zb1_10 : w.heap.size ≤ gb277)); have n3_ := Aside0.mk ((zb1_10 : w.heap.size ≤ gb277)); clear HB; have HB := n0_; have BK277 := n1_; have GW277 := n2_; have GE277 := n3_; clear n0_ n1_ n2_ n3_; clear hb hbox hg; have hcz6_0 : w5.cell? ⟨gb277, 0, none⟩ = some (.string a0_0) := (blk_cell BK277.out 0).trans rfl; have hcz6_1 : w5.cell? ⟨gb277, 1, none⟩ = some (.int .i64 a0_1) := (blk_cell BK277.out 1).trans rfl; have hcz6_2 : w5.cell? ⟨gb277, 2, none⟩ = some (.slice A0_2 l0_2.length c0_2) := (blk_cell BK277.out 2).trans rfl; have hfz6_0 := blk_frozen BK277.out 0; have hfz6_1 := blk_frozen BK277.out 1; have hfz6_2 := blk_frozen BK277.out 2) | ((with_reducible refine gate_callee (f := 79) rfl ?_); refine goesL_ (some 8) rfl rfl Tryd.func79 (by kernel_rfl) rfl #[.slice A0_2 l0_2.length c0_2, .int .i64 a1] rfl zb2_10 ?_; (with_reducible refine (laws_heldPeerS.calls k _ _ l0_2 a1 t278 _ ?side1 ?side2 A3.out).mono ?_); (case side1 => repeat (first | exact (Kd.C_below HR0_2.out HB.out) | (with_reducible refine Kd.C_alloc ?_ _) | (with_reducible refine Kd.C_drewN ?_ _) | (with_reducible refine Kd.C_drew ?_))); (case side2 => exact HC0_2.out); rintro e w7 ⟨rfl, hb⟩; refine ⟨_, rfl, ?_⟩; have n0_ := Aside0.mk (blk_below (g := gb277) (o := .cells #[.string a0_0, .int .i64 a0_1, .slice A0_2 l0_2.length c0_2] 40 (0, 0)) (by (with_reducible repeat (first | refine blk_drewN ?_ _ | refine blk_drew ?_ | refine blk_alloc ?_ _)); exact BK277.out) hb); have n1_ := Aside0.mk (below_step (by repeat (first | (with_reducible first | exact HB.out | apply below_alloc | apply pw_below_drewN | apply below_drew1 | refine below_set ?_ GE277.out) | exact HB.out)) hb); clear BK277; clear HB; have BK277 := n0_; have HB := n1_; clear n0_ n1_; (try clear hb); (try clear hb2); (try clear hk); (try clear hi)))
  go_ret
  exact ⟨by first | rfl | (simp [errW_none, errW_some] <;> rfl) | (simp [*, errW_none, errW_some] <;> rfl), by repeat (first | (with_reducible first | exact HB.out | apply below_alloc | apply pw_below_drewN | apply below_drew1 | refine below_set ?_ GE277.out) | exact HB.out)⟩
 ·
  rw [if_neg c4] at H
  have c4b0 : decide (t278 < 0) = false := decide_eq_false c4
  clear c4
  obtain rfl := Option.some.inj H
  go_enter Tryd.func62, Tryd.ntmps62
  go_wp2_with (first | ((with_reducible refine gate_dst (N := 2) rfl ?_); refine box_event ?hg (N := 2) ?hd (cs := #[.string a0_0, .int .i64 a0_1, .slice A0_2 l0_2.length c0_2]) (t := 40) ?hr ?_; (case hd => rfl); (case hg => rfl); (case hr => first | (go_simp; done) | (go_simp; rfl)); intro gb277 hg w8 hbox hb; have n0_ := Aside0.mk (below_step zb0_10 hb); have n1_ := Aside0.mk (hbox); have n2_ := Aside0.mk ((zb1_10 : w.heap.size ≤ gb277)); have n3_ := Aside0.mk ((zb1_10 : w.heap.size ≤ gb277)); clear HB; have HB := n0_; have BK277 := n1_; have GW277 := n2_; have GE277 := n3_; clear n0_ n1_ n2_ n3_; clear hb hbox hg; have hcz9_0 : w8.cell? ⟨gb277, 0, none⟩ = some (.string a0_0) := (blk_cell BK277.out 0).trans rfl; have hcz9_1 : w8.cell? ⟨gb277, 1, none⟩ = some (.int .i64 a0_1) := (blk_cell BK277.out 1).trans rfl; have hcz9_2 : w8.cell? ⟨gb277, 2, none⟩ = some (.slice A0_2 l0_2.length c0_2) := (blk_cell BK277.out 2).trans rfl; have hfz9_0 := blk_frozen BK277.out 0; have hfz9_1 := blk_frozen BK277.out 1; have hfz9_2 := blk_frozen BK277.out 2) | ((with_reducible refine gate_callee (f := 79) rfl ?_); refine goesL_ (some 8) rfl rfl Tryd.func79 (by kernel_rfl) rfl #[.slice A0_2 l0_2.length c0_2, .int .i64 a1] rfl zb2_10 ?_; (with_reducible refine (laws_heldPeerS.calls k _ _ l0_2 a1 t278 _ ?side1 ?side2 A3.out).mono ?_); (case side1 => repeat (first | exact (Kd.C_below HR0_2.out HB.out) | (with_reducible refine Kd.C_alloc ?_ _) | (with_reducible refine Kd.C_drewN ?_ _) | (with_reducible refine Kd.C_drew ?_))); (case side2 => exact HC0_2.out); rintro e w10 ⟨rfl, hb⟩; refine ⟨_, rfl, ?_⟩; have n0_ := Aside0.mk (blk_below (g := gb277) (o := .cells #[.string a0_0, .int .i64 a0_1, .slice A0_2 l0_2.length c0_2] 40 (0, 0)) (by (with_reducible repeat (first | refine blk_drewN ?_ _ | refine blk_drew ?_ | refine blk_alloc ?_ _)); exact BK277.out) hb); have n1_ := Aside0.mk (below_step (by repeat (first | (with_reducible first | exact HB.out | apply below_alloc | apply pw_below_drewN | apply below_drew1 | refine below_set ?_ GE277.out) | exact HB.out)) hb); clear BK277; clear HB; have BK277 := n0_; have HB := n1_; clear n0_ n1_; (try clear hb); (try clear hb2); (try clear hk); (try clear hi)))
  go_ret
  exact ⟨by first | rfl | (simp [errW_none, errW_some] <;> rfl) | (simp [*, errW_none, errW_some] <;> rfl), by repeat (first | (with_reducible first | exact HB.out | apply below_alloc | apply pw_below_drewN | apply below_drew1 | refine below_set ?_ GE277.out) | exact HB.out)⟩

/-! ### laws_heldDialbackOut: function 31 -/
def laws_heldDialbackOut.f (k : Nat) (a0_0 : ByteArray) (a0_1 : Int) (l0_2 : List (S71)) (a0_3 : Int) (a0_4 : Int) (a1 : Int) : Option (Int) := (laws_heldDialback.f k a0_0 a0_1 l0_2 a1).bind fun t280 => (if t280 < 0 then (some (-1)) else (some t280))
theorem laws_heldDialbackOut.mono : ∀ a0 a1 a2 a3 a4 a5 k, LeO (laws_heldDialbackOut.f k a0 a1 a2 a3 a4 a5) (laws_heldDialbackOut.f (k + 1) a0 a1 a2 a3 a4 a5) := by
 intro a0 a1 a2 a3 a4 a5 k
 unfold laws_heldDialbackOut.f
 repeat' first
   | (with_reducible exact laws_heldDialback.mono _ _ _ _ _)
   | (with_reducible exact LeO.refl _)
   | (with_reducible exact LeO.none _)
   | (with_reducible refine LeO.ite ?_ ?_)
   | (with_reducible refine LeO.bind ?_ (fun _ => ?_))
   | exact laws_heldDialback.mono _ _ _ _ _
   | exact LeO.none _
   | refine LeO.ite ?_ ?_
   | refine LeO.bind ?_ (fun _ => ?_)
set_option maxHeartbeats 8000000 in
set_option maxRecDepth 100000 in
theorem laws_heldDialbackOut.calls (k : Nat) (a0_0 : ByteArray) (a0_1 : Int) (A0_2 : Option Addr) (c0_2 : Nat) (l0_2 : List (S71)) (a0_3 : Int) (a0_4 : Int) (a1 : Int) (r : Int) (w : World) (hr0_2 : Kd.C k71 w A0_2 l0_2.length l0_2) (hc0_2 : l0_2.length ≤ c0_2) (h : laws_heldDialbackOut.f k a0_0 a0_1 l0_2 a0_3 a0_4 a1 = some r) :
  Calls Tryd.prog 31 #[.agg #[.string a0_0, .int .i64 a0_1, .slice A0_2 l0_2.length c0_2, .int .i64 a0_3, .int .i64 a0_4], .int .i64 a1] w fun e w' => e = .returned (.int .i64 r) ∧ Below w.heap.size w w' := by
 have hu51 := Tryd.underlying51
 have hu40 := Tryd.underlying40
 have HR0_2 := Aside0.mk hr0_2
 have HC0_2 := Aside0.mk hc0_2
 clear hr0_2 hc0_2
 have HB := Aside0.mk (Below.refl w.heap.size w)
 have H : ((laws_heldDialback.f k a0_0 a0_1 l0_2 a1).bind fun t280 => (if t280 < 0 then (some (-1)) else (some t280))) = some r := h
 clear h
 replace H := Option.bind_eq_some_iff.mp H
 obtain ⟨t280, A30, H⟩ := H
 replace H : (if t280 < 0 then (some (-1)) else (some t280)) = some r := H
 have A3 := Aside0.mk A30
 clear A30
 by_cases c4 : t280 < 0
 ·
  rw [if_pos c4] at H
  have c4b0 : decide (t280 < 0) = true := decide_eq_true c4
  clear c4
  obtain rfl := Option.some.inj H
  go_enter Tryd.func31, Tryd.ntmps31
  go_wp2_with (first | ((with_reducible refine gate_dst (N := 2) rfl ?_); refine box_event ?hg (N := 2) ?hd (cs := #[.string a0_0, .int .i64 a0_1, .slice A0_2 l0_2.length c0_2, .int .i64 a0_3, .int .i64 a0_4]) (t := 51) ?hr ?_; (case hd => rfl); (case hg => rfl); (case hr => first | (go_simp; done) | (go_simp; rfl)); intro gb279 hg w5 hbox hb; have n0_ := Aside0.mk (below_step zb0_10 hb); have n1_ := Aside0.mk (hbox); have n2_ := Aside0.mk ((zb1_10 : w.heap.size ≤ gb279)); have n3_ := Aside0.mk ((zb1_10 : w.heap.size ≤ gb279)); clear HB; have HB := n0_; have BK279 := n1_; have GW279 := n2_; have GE279 := n3_; clear n0_ n1_ n2_ n3_; clear hb hbox hg; have hcz6_0 : w5.cell? ⟨gb279, 0, none⟩ = some (.string a0_0) := (blk_cell BK279.out 0).trans rfl; have hcz6_1 : w5.cell? ⟨gb279, 1, none⟩ = some (.int .i64 a0_1) := (blk_cell BK279.out 1).trans rfl; have hcz6_2 : w5.cell? ⟨gb279, 2, none⟩ = some (.slice A0_2 l0_2.length c0_2) := (blk_cell BK279.out 2).trans rfl; have hcz6_3 : w5.cell? ⟨gb279, 3, none⟩ = some (.int .i64 a0_3) := (blk_cell BK279.out 3).trans rfl; have hcz6_4 : w5.cell? ⟨gb279, 4, none⟩ = some (.int .i64 a0_4) := (blk_cell BK279.out 4).trans rfl; have hfz6_0 := blk_frozen BK279.out 0; have hfz6_1 := blk_frozen BK279.out 1; have hfz6_2 := blk_frozen BK279.out 2; have hfz6_3 := blk_frozen BK279.out 3; have hfz6_4 := blk_frozen BK279.out 4) | ((with_reducible refine gate_callee (f := 62) rfl ?_); refine goesL_ (some 8) rfl rfl Tryd.func62 (by kernel_rfl) rfl #[.agg #[.string a0_0, .int .i64 a0_1, .slice A0_2 l0_2.length c0_2], .int .i64 a1] rfl zb2_10 ?_; (with_reducible refine (laws_heldDialback.calls k a0_0 a0_1 _ _ l0_2 a1 t280 _ ?side1 ?side2 A3.out).mono ?_); (case side1 => repeat (first | exact (Kd.C_below HR0_2.out HB.out) | (with_reducible refine Kd.C_alloc ?_ _) | (with_reducible refine Kd.C_drewN ?_ _) | (with_reducible refine Kd.C_drew ?_))); (case side2 => exact HC0_2.out); rintro e w7 ⟨rfl, hb⟩; refine ⟨_, rfl, ?_⟩; have n0_ := Aside0.mk (blk_below (g := gb279) (o := .cells #[.string a0_0, .int .i64 a0_1, .slice A0_2 l0_2.length c0_2, .int .i64 a0_3, .int .i64 a0_4] 51 (0, 0)) (by (with_reducible repeat (first | refine blk_drewN ?_ _ | refine blk_drew ?_ | refine blk_alloc ?_ _)); exact BK279.out) hb); have n1_ := Aside0.mk (below_step (by repeat (first | (with_reducible first | exact HB.out | apply below_alloc | apply pw_below_drewN | apply below_drew1 | refine below_set ?_ GE279.out) | exact HB.out)) hb); clear BK279; clear HB; have BK279 := n0_; have HB := n1_; clear n0_ n1_; (try clear hb); (try clear hb2); (try clear hk); (try clear hi)))
  go_ret
  exact ⟨by first | rfl | (simp [errW_none, errW_some] <;> rfl) | (simp [*, errW_none, errW_some] <;> rfl), by repeat (first | (with_reducible first | exact HB.out | apply below_alloc | apply pw_below_drewN | apply below_drew1 | refine below_set ?_ GE279.out) | exact HB.out)⟩
 ·
  rw [if_neg c4] at H
  have c4b0 : decide (t280 < 0) = false := decide_eq_false c4
  clear c4
  obtain rfl := Option.some.inj H
  go_enter Tryd.func31, Tryd.ntmps31
  go_wp2_with (first | ((with_reducible refine gate_dst (N := 2) rfl ?_); refine box_event ?hg (N := 2) ?hd (cs := #[.string a0_0, .int .i64 a0_1, .slice A0_2 l0_2.length c0_2, .int .i64 a0_3, .int .i64 a0_4]) (t := 51) ?hr ?_; (case hd => rfl); (case hg => rfl); (case hr => first | (go_simp; done) | (go_simp; rfl)); intro gb279 hg w8 hbox hb; have n0_ := Aside0.mk (below_step zb0_10 hb); have n1_ := Aside0.mk (hbox); have n2_ := Aside0.mk ((zb1_10 : w.heap.size ≤ gb279)); have n3_ := Aside0.mk ((zb1_10 : w.heap.size ≤ gb279)); clear HB; have HB := n0_; have BK279 := n1_; have GW279 := n2_; have GE279 := n3_; clear n0_ n1_ n2_ n3_; clear hb hbox hg; have hcz9_0 : w8.cell? ⟨gb279, 0, none⟩ = some (.string a0_0) := (blk_cell BK279.out 0).trans rfl; have hcz9_1 : w8.cell? ⟨gb279, 1, none⟩ = some (.int .i64 a0_1) := (blk_cell BK279.out 1).trans rfl; have hcz9_2 : w8.cell? ⟨gb279, 2, none⟩ = some (.slice A0_2 l0_2.length c0_2) := (blk_cell BK279.out 2).trans rfl; have hcz9_3 : w8.cell? ⟨gb279, 3, none⟩ = some (.int .i64 a0_3) := (blk_cell BK279.out 3).trans rfl; have hcz9_4 : w8.cell? ⟨gb279, 4, none⟩ = some (.int .i64 a0_4) := (blk_cell BK279.out 4).trans rfl; have hfz9_0 := blk_frozen BK279.out 0; have hfz9_1 := blk_frozen BK279.out 1; have hfz9_2 := blk_frozen BK279.out 2; have hfz9_3 := blk_frozen BK279.out 3; have hfz9_4 := blk_frozen BK279.out 4) | ((with_reducible refine gate_callee (f := 62) rfl ?_); refine goesL_ (some 8) rfl rfl Tryd.func62 (by kernel_rfl) rfl #[.agg #[.string a0_0, .int .i64 a0_1, .slice A0_2 l0_2.length c0_2], .int .i64 a1] rfl zb2_10 ?_; (with_reducible refine (laws_heldDialback.calls k a0_0 a0_1 _ _ l0_2 a1 t280 _ ?side1 ?side2 A3.out).mono ?_); (case side1 => repeat (first | exact (Kd.C_below HR0_2.out HB.out) | (with_reducible refine Kd.C_alloc ?_ _) | (with_reducible refine Kd.C_drewN ?_ _) | (with_reducible refine Kd.C_drew ?_))); (case side2 => exact HC0_2.out); rintro e w10 ⟨rfl, hb⟩; refine ⟨_, rfl, ?_⟩; have n0_ := Aside0.mk (blk_below (g := gb279) (o := .cells #[.string a0_0, .int .i64 a0_1, .slice A0_2 l0_2.length c0_2, .int .i64 a0_3, .int .i64 a0_4] 51 (0, 0)) (by (with_reducible repeat (first | refine blk_drewN ?_ _ | refine blk_drew ?_ | refine blk_alloc ?_ _)); exact BK279.out) hb); have n1_ := Aside0.mk (below_step (by repeat (first | (with_reducible first | exact HB.out | apply below_alloc | apply pw_below_drewN | apply below_drew1 | refine below_set ?_ GE279.out) | exact HB.out)) hb); clear BK279; clear HB; have BK279 := n0_; have HB := n1_; clear n0_ n1_; (try clear hb); (try clear hb2); (try clear hk); (try clear hi)))
  go_ret
  exact ⟨by first | rfl | (simp [errW_none, errW_some] <;> rfl) | (simp [*, errW_none, errW_some] <;> rfl), by repeat (first | (with_reducible first | exact HB.out | apply below_alloc | apply pw_below_drewN | apply below_drew1 | refine below_set ?_ GE279.out) | exact HB.out)⟩

/-! ### laws_FnExactDbOpen: function 7 -/
def laws_FnExactDbOpen.j0 : Nat → ByteArray → Bool → ByteArray → Int → List (S97) → ByteArray → Int → List (S71) → Int → Int → ByteArray → Int → List (S71) → Int → Int → Option (Bool)
 | 0, _, _, _, _, _, _, _, _, _, _, _, _, _, _, _ => none
 | k + 1, x1, x49, x282000, x282001, x282002, x296000, x296001, x296002, x296003, x296004, x310000, x310001, x310002, x310003, x310004 => if x49 = true then (some false) else ((laws_markDialbackOut.f k x310000 x310001 x310002 x310003 x310004 1).bind fun bt320 => ((laws_heldDialbackOut.f k x310000 x310001 bt320.2 x310003 x310004 1).bind fun t322 => (if t322 < 0 then (some false) else (if t322 = bt320.1 then ((laws_toDialback.f k x282000 x282001 x282002).bind fun bt323 => ((impl_DbOpen.f k bt323.1 bt323.2.1 bt323.2.2 x1).bind fun bt328 => ((laws_eqDialbackOut.f k bt328.1 bt328.2.1 bt328.2.2.1 bt328.2.2.2.1 bt328.2.2.2.2 x296000 x296001 x296002 x296003 x296004).bind fun t336 => (if t336 = true then ((laws_heldDialbackOut.f k x310000 x310001 bt320.2 x310003 x310004 1).bind fun t337 => (if t337 < 0 then (some false) else (if t337 = bt320.1 then (some true) else (some false)))) else (some false))))) else (some false)))))
def laws_FnExactDbOpen.f (k : Nat) (a0_0 : ByteArray) (a0_1 : Int) (l0_2 : List (S97)) (a1 : ByteArray) : Option (Bool) := if (a1.size : Int) > 1048576 then (some true) else ((laws_szDialback.f k a0_0 a0_1 l0_2 1048576).bind fun t282 => (if t282 < 0 then (some true) else ((laws_toDialback.f k a0_0 a0_1 l0_2).bind fun bt283 => ((spec_DbOpen.f k bt283.1 bt283.2.1 bt283.2.2 a1).bind fun bt288 => ((laws_toDialback.f k a0_0 a0_1 l0_2).bind fun bt296 => ((impl_DbOpen.f k bt296.1 bt296.2.1 bt296.2.2 a1).bind fun bt302 => ((laws_eqDialbackOut.f k bt302.1 bt302.2.1 bt302.2.2.1 bt302.2.2.2.1 bt302.2.2.2.2 bt288.1 bt288.2.1 bt288.2.2.1 bt288.2.2.2.1 bt288.2.2.2.2).bind fun t310 => (if t310 = true then ((laws_toDialback.f k a0_0 a0_1 l0_2).bind fun bt311 => ((laws_eqDialback.f k bt296.1 bt296.2.1 bt296.2.2 bt311.1 bt311.2.1 bt311.2.2).bind fun t316 => (if t316 = true then ((laws_markDialback.f k bt296.1 bt296.2.1 bt296.2.2 1).bind fun bt317 => (if bt317.1 < 0 then (laws_FnExactDbOpen.j0 k a1 true a0_0 a0_1 l0_2 bt288.1 bt288.2.1 bt288.2.2.1 bt288.2.2.2.1 bt288.2.2.2.2 bt302.1 bt302.2.1 bt302.2.2.1 bt302.2.2.2.1 bt302.2.2.2.2) else ((laws_eqDialbackOut.f k bt302.1 bt302.2.1 bt302.2.2.1 bt302.2.2.2.1 bt302.2.2.2.2 bt288.1 bt288.2.1 bt288.2.2.1 bt288.2.2.2.1 bt288.2.2.2.2).bind fun t319 => (laws_FnExactDbOpen.j0 k a1 (!t319) a0_0 a0_1 l0_2 bt288.1 bt288.2.1 bt288.2.2.1 bt288.2.2.2.1 bt288.2.2.2.2 bt302.1 bt302.2.1 bt302.2.2.1 bt302.2.2.2.1 bt302.2.2.2.2)))) else (some false)))) else (some false)))))))))
theorem laws_FnExactDbOpen.mono_l : ∀ k, (∀ y0 y1 y2 y3 y4 y5 y6 y7 y8 y9 y10 y11 y12 y13 y14, LeO (laws_FnExactDbOpen.j0 k y0 y1 y2 y3 y4 y5 y6 y7 y8 y9 y10 y11 y12 y13 y14) (laws_FnExactDbOpen.j0 (k + 1) y0 y1 y2 y3 y4 y5 y6 y7 y8 y9 y10 y11 y12 y13 y14))
 | 0 => fun _ _ _ _ _ _ _ _ _ _ _ _ _ _ _ r h => by simp [laws_FnExactDbOpen.j0] at h
 | k + 1 => by
  have ih0 := laws_FnExactDbOpen.mono_l k
  ·
   intro y0 y1 y2 y3 y4 y5 y6 y7 y8 y9 y10 y11 y12 y13 y14
   unfold laws_FnExactDbOpen.j0
   repeat' first
   | (with_reducible exact ih0 _ _ _ _ _ _ _ _ _ _ _ _ _ _ _)
   | (with_reducible exact impl_DbOpen.mono _ _ _ _ _)
   | (with_reducible exact laws_eqDialback.mono _ _ _ _ _ _ _)
   | (with_reducible exact laws_eqDialbackOut.mono _ _ _ _ _ _ _ _ _ _ _)
   | (with_reducible exact laws_heldDialbackOut.mono _ _ _ _ _ _ _)
   | (with_reducible exact laws_markDialback.mono _ _ _ _ _)
   | (with_reducible exact laws_markDialbackOut.mono _ _ _ _ _ _ _)
   | (with_reducible exact laws_szDialback.mono _ _ _ _ _)
   | (with_reducible exact laws_toDialback.mono _ _ _ _)
   | (with_reducible exact spec_DbOpen.mono _ _ _ _ _)
   | (with_reducible exact LeO.refl _)
   | (with_reducible exact LeO.none _)
   | (with_reducible refine LeO.ite ?_ ?_)
   | (with_reducible refine LeO.bind ?_ (fun _ => ?_))
   | exact ih0 _ _ _ _ _ _ _ _ _ _ _ _ _ _ _
   | exact impl_DbOpen.mono _ _ _ _ _
   | exact laws_eqDialback.mono _ _ _ _ _ _ _
   | exact laws_eqDialbackOut.mono _ _ _ _ _ _ _ _ _ _ _
   | exact laws_heldDialbackOut.mono _ _ _ _ _ _ _
   | exact laws_markDialback.mono _ _ _ _ _
   | exact laws_markDialbackOut.mono _ _ _ _ _ _ _
   | exact laws_szDialback.mono _ _ _ _ _
   | exact laws_toDialback.mono _ _ _ _
   | exact spec_DbOpen.mono _ _ _ _ _
   | exact LeO.none _
   | refine LeO.ite ?_ ?_
   | refine LeO.bind ?_ (fun _ => ?_)
theorem laws_FnExactDbOpen.mono : ∀ a0 a1 a2 a3 k, LeO (laws_FnExactDbOpen.f k a0 a1 a2 a3) (laws_FnExactDbOpen.f (k + 1) a0 a1 a2 a3) := by
 intro a0 a1 a2 a3 k
 have ih0 := laws_FnExactDbOpen.mono_l k
 unfold laws_FnExactDbOpen.f
 repeat' first
   | (with_reducible exact ih0 _ _ _ _ _ _ _ _ _ _ _ _ _ _ _)
   | (with_reducible exact impl_DbOpen.mono _ _ _ _ _)
   | (with_reducible exact laws_eqDialback.mono _ _ _ _ _ _ _)
   | (with_reducible exact laws_eqDialbackOut.mono _ _ _ _ _ _ _ _ _ _ _)
   | (with_reducible exact laws_heldDialbackOut.mono _ _ _ _ _ _ _)
   | (with_reducible exact laws_markDialback.mono _ _ _ _ _)
   | (with_reducible exact laws_markDialbackOut.mono _ _ _ _ _ _ _)
   | (with_reducible exact laws_szDialback.mono _ _ _ _ _)
   | (with_reducible exact laws_toDialback.mono _ _ _ _)
   | (with_reducible exact spec_DbOpen.mono _ _ _ _ _)
   | (with_reducible exact LeO.refl _)
   | (with_reducible exact LeO.none _)
   | (with_reducible refine LeO.ite ?_ ?_)
   | (with_reducible refine LeO.bind ?_ (fun _ => ?_))
   | exact ih0 _ _ _ _ _ _ _ _ _ _ _ _ _ _ _
   | exact impl_DbOpen.mono _ _ _ _ _
   | exact laws_eqDialback.mono _ _ _ _ _ _ _
   | exact laws_eqDialbackOut.mono _ _ _ _ _ _ _ _ _ _ _
   | exact laws_heldDialbackOut.mono _ _ _ _ _ _ _
   | exact laws_markDialback.mono _ _ _ _ _
   | exact laws_markDialbackOut.mono _ _ _ _ _ _ _
   | exact laws_szDialback.mono _ _ _ _ _
   | exact laws_toDialback.mono _ _ _ _
   | exact spec_DbOpen.mono _ _ _ _ _
   | exact LeO.none _
   | refine LeO.ite ?_ ?_
   | refine LeO.bind ?_ (fun _ => ?_)
set_option maxHeartbeats 8000000 in
set_option maxRecDepth 100000 in
theorem laws_FnExactDbOpen.calls (k : Nat) (a0_0 : ByteArray) (a0_1 : Int) (A0_2 : Option Addr) (c0_2 : Nat) (l0_2 : List (S97)) (a1 : ByteArray) (r : Bool) (w : World) (hr0_2 : Kd.C k97 w A0_2 l0_2.length l0_2) (hc0_2 : l0_2.length ≤ c0_2) (h : laws_FnExactDbOpen.f k a0_0 a0_1 l0_2 a1 = some r) (hrt0 : r = true) (hmx : MaxIs w) :
  Calls Tryd.prog 7 #[.agg #[.string a0_0, .int .i64 a0_1, .slice A0_2 l0_2.length c0_2], .string a1] w fun e w' => e = .returned (.bool r) ∧ Below w.heap.size w w' := by
 have hrt := Aside0.mk hrt0
 clear hrt0
 have hu35 := Tryd.underlying35
 have hu51 := Tryd.underlying51
 have hu40 := Tryd.underlying40
 have HR0_2 := Aside0.mk hr0_2
 have HC0_2 := Aside0.mk hc0_2
 clear hr0_2 hc0_2
 have HB := Aside0.mk (Below.refl w.heap.size w)
 have H : (if (a1.size : Int) > 1048576 then (some true) else ((laws_szDialback.f k a0_0 a0_1 l0_2 1048576).bind fun t282 => (if t282 < 0 then (some true) else ((laws_toDialback.f k a0_0 a0_1 l0_2).bind fun bt283 => ((spec_DbOpen.f k bt283.1 bt283.2.1 bt283.2.2 a1).bind fun bt288 => ((laws_toDialback.f k a0_0 a0_1 l0_2).bind fun bt296 => ((impl_DbOpen.f k bt296.1 bt296.2.1 bt296.2.2 a1).bind fun bt302 => ((laws_eqDialbackOut.f k bt302.1 bt302.2.1 bt302.2.2.1 bt302.2.2.2.1 bt302.2.2.2.2 bt288.1 bt288.2.1 bt288.2.2.1 bt288.2.2.2.1 bt288.2.2.2.2).bind fun t310 => (if t310 = true then ((laws_toDialback.f k a0_0 a0_1 l0_2).bind fun bt311 => ((laws_eqDialback.f k bt296.1 bt296.2.1 bt296.2.2 bt311.1 bt311.2.1 bt311.2.2).bind fun t316 => (if t316 = true then ((laws_markDialback.f k bt296.1 bt296.2.1 bt296.2.2 1).bind fun bt317 => (if bt317.1 < 0 then (laws_FnExactDbOpen.j0 k a1 true a0_0 a0_1 l0_2 bt288.1 bt288.2.1 bt288.2.2.1 bt288.2.2.2.1 bt288.2.2.2.2 bt302.1 bt302.2.1 bt302.2.2.1 bt302.2.2.2.1 bt302.2.2.2.2) else ((laws_eqDialbackOut.f k bt302.1 bt302.2.1 bt302.2.2.1 bt302.2.2.2.1 bt302.2.2.2.2 bt288.1 bt288.2.1 bt288.2.2.1 bt288.2.2.2.1 bt288.2.2.2.2).bind fun t319 => (laws_FnExactDbOpen.j0 k a1 (!t319) a0_0 a0_1 l0_2 bt288.1 bt288.2.1 bt288.2.2.1 bt288.2.2.2.1 bt288.2.2.2.2 bt302.1 bt302.2.1 bt302.2.2.1 bt302.2.2.2.1 bt302.2.2.2.2)))) else (some false)))) else (some false)))))))))) = some r := h
 clear h
 by_cases c3 : (a1.size : Int) > 1048576
 ·
  rw [if_pos c3] at H
  have c3b0 : decide (1048576 < (a1.size : Int)) = true := decide_eq_true c3
  have c3b1 : decide (1048576 < a1.size) = true := decide_eq_true (by omega)
  clear c3
  obtain rfl := Option.some.inj H
  go_enter Tryd.func7, Tryd.ntmps7
  go_wp2_with (first | ((with_reducible refine gate_dst (N := 2) rfl ?_); refine box_event ?hg (N := 2) ?hd (cs := #[.string a0_0, .int .i64 a0_1, .slice A0_2 l0_2.length c0_2]) (t := 35) ?hr ?_; (case hd => rfl); (case hg => rfl); (case hr => first | (go_simp; done) | (go_simp; rfl)); intro gb281 hg w4 hbox hb; have n0_ := Aside0.mk (below_step zb0_10 hb); have n1_ := Aside0.mk (hbox); have n2_ := Aside0.mk ((zb1_10 : w.heap.size ≤ gb281)); have n3_ := Aside0.mk ((zb1_10 : w.heap.size ≤ gb281)); clear HB; have HB := n0_; have BK281 := n1_; have GW281 := n2_; have GE281 := n3_; clear n0_ n1_ n2_ n3_; clear hb hbox hg))
  go_ret
  exact ⟨by first | rfl | (simp [errW_none, errW_some] <;> rfl) | (simp [*, errW_none, errW_some] <;> rfl), by repeat (first | (with_reducible first | exact HB.out | apply below_alloc | apply pw_below_drewN | apply below_drew1 | refine below_set ?_ GE281.out) | exact HB.out)⟩
 ·
  rw [if_neg c3] at H
  have c3b0 : decide (1048576 < (a1.size : Int)) = false := decide_eq_false c3
  have c3b1 : decide (1048576 < a1.size) = false := decide_eq_false (by omega)
  clear c3
  replace H := Option.bind_eq_some_iff.mp H
  obtain ⟨t282, A50, H⟩ := H
  replace H : (if t282 < 0 then (some true) else ((laws_toDialback.f k a0_0 a0_1 l0_2).bind fun bt283 => ((spec_DbOpen.f k bt283.1 bt283.2.1 bt283.2.2 a1).bind fun bt288 => ((laws_toDialback.f k a0_0 a0_1 l0_2).bind fun bt296 => ((impl_DbOpen.f k bt296.1 bt296.2.1 bt296.2.2 a1).bind fun bt302 => ((laws_eqDialbackOut.f k bt302.1 bt302.2.1 bt302.2.2.1 bt302.2.2.2.1 bt302.2.2.2.2 bt288.1 bt288.2.1 bt288.2.2.1 bt288.2.2.2.1 bt288.2.2.2.2).bind fun t310 => (if t310 = true then ((laws_toDialback.f k a0_0 a0_1 l0_2).bind fun bt311 => ((laws_eqDialback.f k bt296.1 bt296.2.1 bt296.2.2 bt311.1 bt311.2.1 bt311.2.2).bind fun t316 => (if t316 = true then ((laws_markDialback.f k bt296.1 bt296.2.1 bt296.2.2 1).bind fun bt317 => (if bt317.1 < 0 then (laws_FnExactDbOpen.j0 k a1 true a0_0 a0_1 l0_2 bt288.1 bt288.2.1 bt288.2.2.1 bt288.2.2.2.1 bt288.2.2.2.2 bt302.1 bt302.2.1 bt302.2.2.1 bt302.2.2.2.1 bt302.2.2.2.2) else ((laws_eqDialbackOut.f k bt302.1 bt302.2.1 bt302.2.2.1 bt302.2.2.2.1 bt302.2.2.2.2 bt288.1 bt288.2.1 bt288.2.2.1 bt288.2.2.2.1 bt288.2.2.2.2).bind fun t319 => (laws_FnExactDbOpen.j0 k a1 (!t319) a0_0 a0_1 l0_2 bt288.1 bt288.2.1 bt288.2.2.1 bt288.2.2.2.1 bt288.2.2.2.2 bt302.1 bt302.2.1 bt302.2.2.1 bt302.2.2.2.1 bt302.2.2.2.2)))) else (some false)))) else (some false)))))))) = some r := H
  have A5 := Aside0.mk A50
  clear A50
  by_cases c6 : t282 < 0
  ·
   rw [if_pos c6] at H
   have c6b0 : decide (t282 < 0) = true := decide_eq_true c6
   clear c6
   obtain rfl := Option.some.inj H
   go_enter Tryd.func7, Tryd.ntmps7
   go_wp2_with (first | ((with_reducible refine gate_dst (N := 2) rfl ?_); refine box_event ?hg (N := 2) ?hd (cs := #[.string a0_0, .int .i64 a0_1, .slice A0_2 l0_2.length c0_2]) (t := 35) ?hr ?_; (case hd => rfl); (case hg => rfl); (case hr => first | (go_simp; done) | (go_simp; rfl)); intro gb281 hg w7 hbox hb; have n0_ := Aside0.mk (below_step zb0_10 hb); have n1_ := Aside0.mk (hbox); have n2_ := Aside0.mk ((zb1_10 : w.heap.size ≤ gb281)); have n3_ := Aside0.mk ((zb1_10 : w.heap.size ≤ gb281)); clear HB; have HB := n0_; have BK281 := n1_; have GW281 := n2_; have GE281 := n3_; clear n0_ n1_ n2_ n3_; clear hb hbox hg; have hcz8_0 : w7.cell? ⟨gb281, 0, none⟩ = some (.string a0_0) := (blk_cell BK281.out 0).trans rfl; have hcz8_1 : w7.cell? ⟨gb281, 1, none⟩ = some (.int .i64 a0_1) := (blk_cell BK281.out 1).trans rfl; have hcz8_2 : w7.cell? ⟨gb281, 2, none⟩ = some (.slice A0_2 l0_2.length c0_2) := (blk_cell BK281.out 2).trans rfl; have hfz8_0 := blk_frozen BK281.out 0; have hfz8_1 := blk_frozen BK281.out 1; have hfz8_2 := blk_frozen BK281.out 2) | ((with_reducible refine gate_callee (f := 15) rfl ?_); refine goesL_ (some 18) rfl rfl Tryd.func15 (by kernel_rfl) rfl #[.agg #[.string a0_0, .int .i64 a0_1, .slice A0_2 l0_2.length c0_2], .int .i64 1048576] rfl zb2_10 ?_; (with_reducible refine (laws_szDialback.calls k a0_0 a0_1 _ _ l0_2 1048576 t282 _ ?side1 ?side2 A5.out).mono ?_); (case side1 => repeat (first | exact (Kd.C_below HR0_2.out HB.out) | (with_reducible refine Kd.C_alloc ?_ _) | (with_reducible refine Kd.C_drewN ?_ _) | (with_reducible refine Kd.C_drew ?_))); (case side2 => exact HC0_2.out); rintro e w9 ⟨rfl, hb⟩; refine ⟨_, rfl, ?_⟩; have n0_ := Aside0.mk (blk_below (g := gb281) (o := .cells #[.string a0_0, .int .i64 a0_1, .slice A0_2 l0_2.length c0_2] 35 (0, 0)) zb3_10 hb); have n1_ := Aside0.mk (below_step zb4_10 hb); clear BK281; clear HB; have BK281 := n0_; have HB := n1_; clear n0_ n1_; (try clear hb); (try clear hb2); (try clear hk); (try clear hi)))
   go_ret
   exact ⟨by first | rfl | (simp [errW_none, errW_some] <;> rfl) | (simp [*, errW_none, errW_some] <;> rfl), by repeat (first | (with_reducible first | exact HB.out | apply below_alloc | apply pw_below_drewN | apply below_drew1 | refine below_set ?_ GE281.out) | exact HB.out)⟩
  ·
   rw [if_neg c6] at H
   have c6b0 : decide (t282 < 0) = false := decide_eq_false c6
   clear c6
   replace H := Option.bind_eq_some_iff.mp H
   obtain ⟨⟨t283, t284, t285⟩, A100, H⟩ := H
   replace H : ((spec_DbOpen.f k t283 t284 t285 a1).bind fun bt288 => ((laws_toDialback.f k a0_0 a0_1 l0_2).bind fun bt296 => ((impl_DbOpen.f k bt296.1 bt296.2.1 bt296.2.2 a1).bind fun bt302 => ((laws_eqDialbackOut.f k bt302.1 bt302.2.1 bt302.2.2.1 bt302.2.2.2.1 bt302.2.2.2.2 bt288.1 bt288.2.1 bt288.2.2.1 bt288.2.2.2.1 bt288.2.2.2.2).bind fun t310 => (if t310 = true then ((laws_toDialback.f k a0_0 a0_1 l0_2).bind fun bt311 => ((laws_eqDialback.f k bt296.1 bt296.2.1 bt296.2.2 bt311.1 bt311.2.1 bt311.2.2).bind fun t316 => (if t316 = true then ((laws_markDialback.f k bt296.1 bt296.2.1 bt296.2.2 1).bind fun bt317 => (if bt317.1 < 0 then (laws_FnExactDbOpen.j0 k a1 true a0_0 a0_1 l0_2 bt288.1 bt288.2.1 bt288.2.2.1 bt288.2.2.2.1 bt288.2.2.2.2 bt302.1 bt302.2.1 bt302.2.2.1 bt302.2.2.2.1 bt302.2.2.2.2) else ((laws_eqDialbackOut.f k bt302.1 bt302.2.1 bt302.2.2.1 bt302.2.2.2.1 bt302.2.2.2.2 bt288.1 bt288.2.1 bt288.2.2.1 bt288.2.2.2.1 bt288.2.2.2.2).bind fun t319 => (laws_FnExactDbOpen.j0 k a1 (!t319) a0_0 a0_1 l0_2 bt288.1 bt288.2.1 bt288.2.2.1 bt288.2.2.2.1 bt288.2.2.2.2 bt302.1 bt302.2.1 bt302.2.2.1 bt302.2.2.2.1 bt302.2.2.2.2)))) else (some false)))) else (some false)))))) = some r := H
   have A10 := Aside0.mk A100
   clear A100
   replace H := Option.bind_eq_some_iff.mp H
   obtain ⟨⟨t288, t289, t290, t293, t294⟩, A110, H⟩ := H
   replace H : ((laws_toDialback.f k a0_0 a0_1 l0_2).bind fun bt296 => ((impl_DbOpen.f k bt296.1 bt296.2.1 bt296.2.2 a1).bind fun bt302 => ((laws_eqDialbackOut.f k bt302.1 bt302.2.1 bt302.2.2.1 bt302.2.2.2.1 bt302.2.2.2.2 t288 t289 t290 t293 t294).bind fun t310 => (if t310 = true then ((laws_toDialback.f k a0_0 a0_1 l0_2).bind fun bt311 => ((laws_eqDialback.f k bt296.1 bt296.2.1 bt296.2.2 bt311.1 bt311.2.1 bt311.2.2).bind fun t316 => (if t316 = true then ((laws_markDialback.f k bt296.1 bt296.2.1 bt296.2.2 1).bind fun bt317 => (if bt317.1 < 0 then (laws_FnExactDbOpen.j0 k a1 true a0_0 a0_1 l0_2 t288 t289 t290 t293 t294 bt302.1 bt302.2.1 bt302.2.2.1 bt302.2.2.2.1 bt302.2.2.2.2) else ((laws_eqDialbackOut.f k bt302.1 bt302.2.1 bt302.2.2.1 bt302.2.2.2.1 bt302.2.2.2.2 t288 t289 t290 t293 t294).bind fun t319 => (laws_FnExactDbOpen.j0 k a1 (!t319) a0_0 a0_1 l0_2 t288 t289 t290 t293 t294 bt302.1 bt302.2.1 bt302.2.2.1 bt302.2.2.2.1 bt302.2.2.2.2)))) else (some false)))) else (some false))))) = some r := H
   have A11 := Aside0.mk A110
   clear A110
   replace H := Option.bind_eq_some_iff.mp H
   obtain ⟨⟨t296, t297, t298⟩, A120, H⟩ := H
   replace H : ((impl_DbOpen.f k t296 t297 t298 a1).bind fun bt302 => ((laws_eqDialbackOut.f k bt302.1 bt302.2.1 bt302.2.2.1 bt302.2.2.2.1 bt302.2.2.2.2 t288 t289 t290 t293 t294).bind fun t310 => (if t310 = true then ((laws_toDialback.f k a0_0 a0_1 l0_2).bind fun bt311 => ((laws_eqDialback.f k t296 t297 t298 bt311.1 bt311.2.1 bt311.2.2).bind fun t316 => (if t316 = true then ((laws_markDialback.f k t296 t297 t298 1).bind fun bt317 => (if bt317.1 < 0 then (laws_FnExactDbOpen.j0 k a1 true a0_0 a0_1 l0_2 t288 t289 t290 t293 t294 bt302.1 bt302.2.1 bt302.2.2.1 bt302.2.2.2.1 bt302.2.2.2.2) else ((laws_eqDialbackOut.f k bt302.1 bt302.2.1 bt302.2.2.1 bt302.2.2.2.1 bt302.2.2.2.2 t288 t289 t290 t293 t294).bind fun t319 => (laws_FnExactDbOpen.j0 k a1 (!t319) a0_0 a0_1 l0_2 t288 t289 t290 t293 t294 bt302.1 bt302.2.1 bt302.2.2.1 bt302.2.2.2.1 bt302.2.2.2.2)))) else (some false)))) else (some false)))) = some r := H
   have A12 := Aside0.mk A120
   clear A120
   replace H := Option.bind_eq_some_iff.mp H
   obtain ⟨⟨t302, t303, t304, t307, t308⟩, A130, H⟩ := H
   replace H : ((laws_eqDialbackOut.f k t302 t303 t304 t307 t308 t288 t289 t290 t293 t294).bind fun t310 => (if t310 = true then ((laws_toDialback.f k a0_0 a0_1 l0_2).bind fun bt311 => ((laws_eqDialback.f k t296 t297 t298 bt311.1 bt311.2.1 bt311.2.2).bind fun t316 => (if t316 = true then ((laws_markDialback.f k t296 t297 t298 1).bind fun bt317 => (if bt317.1 < 0 then (laws_FnExactDbOpen.j0 k a1 true a0_0 a0_1 l0_2 t288 t289 t290 t293 t294 t302 t303 t304 t307 t308) else ((laws_eqDialbackOut.f k t302 t303 t304 t307 t308 t288 t289 t290 t293 t294).bind fun t319 => (laws_FnExactDbOpen.j0 k a1 (!t319) a0_0 a0_1 l0_2 t288 t289 t290 t293 t294 t302 t303 t304 t307 t308)))) else (some false)))) else (some false))) = some r := H
   have A13 := Aside0.mk A130
   clear A130
   replace H := Option.bind_eq_some_iff.mp H
   obtain ⟨t310, A140, H⟩ := H
   replace H : (if t310 = true then ((laws_toDialback.f k a0_0 a0_1 l0_2).bind fun bt311 => ((laws_eqDialback.f k t296 t297 t298 bt311.1 bt311.2.1 bt311.2.2).bind fun t316 => (if t316 = true then ((laws_markDialback.f k t296 t297 t298 1).bind fun bt317 => (if bt317.1 < 0 then (laws_FnExactDbOpen.j0 k a1 true a0_0 a0_1 l0_2 t288 t289 t290 t293 t294 t302 t303 t304 t307 t308) else ((laws_eqDialbackOut.f k t302 t303 t304 t307 t308 t288 t289 t290 t293 t294).bind fun t319 => (laws_FnExactDbOpen.j0 k a1 (!t319) a0_0 a0_1 l0_2 t288 t289 t290 t293 t294 t302 t303 t304 t307 t308)))) else (some false)))) else (some false)) = some r := H
   have A14 := Aside0.mk A140
   clear A140
   by_cases c15 : t310 = true
   ·
    subst c15
    have H1 : ((laws_toDialback.f k a0_0 a0_1 l0_2).bind fun bt311 => ((laws_eqDialback.f k t296 t297 t298 bt311.1 bt311.2.1 bt311.2.2).bind fun t316 => (if t316 = true then ((laws_markDialback.f k t296 t297 t298 1).bind fun bt317 => (if bt317.1 < 0 then (laws_FnExactDbOpen.j0 k a1 true a0_0 a0_1 l0_2 t288 t289 t290 t293 t294 t302 t303 t304 t307 t308) else ((laws_eqDialbackOut.f k t302 t303 t304 t307 t308 t288 t289 t290 t293 t294).bind fun t319 => (laws_FnExactDbOpen.j0 k a1 (!t319) a0_0 a0_1 l0_2 t288 t289 t290 t293 t294 t302 t303 t304 t307 t308)))) else (some false)))) = some r := by rw [if_pos rfl] at H; exact H
    clear H
    have H := H1
    clear H1
    replace H := Option.bind_eq_some_iff.mp H
    obtain ⟨⟨t311, t312, t313⟩, A160, H⟩ := H
    replace H : ((laws_eqDialback.f k t296 t297 t298 t311 t312 t313).bind fun t316 => (if t316 = true then ((laws_markDialback.f k t296 t297 t298 1).bind fun bt317 => (if bt317.1 < 0 then (laws_FnExactDbOpen.j0 k a1 true a0_0 a0_1 l0_2 t288 t289 t290 t293 t294 t302 t303 t304 t307 t308) else ((laws_eqDialbackOut.f k t302 t303 t304 t307 t308 t288 t289 t290 t293 t294).bind fun t319 => (laws_FnExactDbOpen.j0 k a1 (!t319) a0_0 a0_1 l0_2 t288 t289 t290 t293 t294 t302 t303 t304 t307 t308)))) else (some false))) = some r := H
    have A16 := Aside0.mk A160
    clear A160
    replace H := Option.bind_eq_some_iff.mp H
    obtain ⟨t316, A170, H⟩ := H
    replace H : (if t316 = true then ((laws_markDialback.f k t296 t297 t298 1).bind fun bt317 => (if bt317.1 < 0 then (laws_FnExactDbOpen.j0 k a1 true a0_0 a0_1 l0_2 t288 t289 t290 t293 t294 t302 t303 t304 t307 t308) else ((laws_eqDialbackOut.f k t302 t303 t304 t307 t308 t288 t289 t290 t293 t294).bind fun t319 => (laws_FnExactDbOpen.j0 k a1 (!t319) a0_0 a0_1 l0_2 t288 t289 t290 t293 t294 t302 t303 t304 t307 t308)))) else (some false)) = some r := H
    have A17 := Aside0.mk A170
    clear A170
    by_cases c18 : t316 = true
    ·
     subst c18
     have H1 : ((laws_markDialback.f k t296 t297 t298 1).bind fun bt317 => (if bt317.1 < 0 then (laws_FnExactDbOpen.j0 k a1 true a0_0 a0_1 l0_2 t288 t289 t290 t293 t294 t302 t303 t304 t307 t308) else ((laws_eqDialbackOut.f k t302 t303 t304 t307 t308 t288 t289 t290 t293 t294).bind fun t319 => (laws_FnExactDbOpen.j0 k a1 (!t319) a0_0 a0_1 l0_2 t288 t289 t290 t293 t294 t302 t303 t304 t307 t308)))) = some r := by rw [if_pos rfl] at H; exact H
     clear H
     have H := H1
     clear H1
     replace H := Option.bind_eq_some_iff.mp H
     obtain ⟨⟨t317, t318⟩, A190, H⟩ := H
     replace H : (if t317 < 0 then (laws_FnExactDbOpen.j0 k a1 true a0_0 a0_1 l0_2 t288 t289 t290 t293 t294 t302 t303 t304 t307 t308) else ((laws_eqDialbackOut.f k t302 t303 t304 t307 t308 t288 t289 t290 t293 t294).bind fun t319 => (laws_FnExactDbOpen.j0 k a1 (!t319) a0_0 a0_1 l0_2 t288 t289 t290 t293 t294 t302 t303 t304 t307 t308))) = some r := H
     have A19 := Aside0.mk A190
     clear A190
     have HC20 := Aside0.mk H
     clear H
     go_enter Tryd.func7, Tryd.ntmps7
     try go_wp2_with (first | ((with_reducible refine gate_dst (N := 2) rfl ?_); refine box_event ?hg (N := 2) ?hd (cs := #[.string a0_0, .int .i64 a0_1, .slice A0_2 l0_2.length c0_2]) (t := 35) ?hr ?_; (case hd => rfl); (case hg => rfl); (case hr => first | (go_simp; done) | (go_simp; rfl)); intro gb281 hg w21 hbox hb; have n0_ := Aside0.mk (below_step zb0_10 hb); have n1_ := Aside0.mk (hbox); have n2_ := Aside0.mk ((zb1_10 : w.heap.size ≤ gb281)); have n3_ := Aside0.mk ((zb1_10 : w.heap.size ≤ gb281)); clear HB; have HB := n0_; have BK281 := n1_; have GW281 := n2_; have GE281 := n3_; clear n0_ n1_ n2_ n3_; clear hb hbox hg; have hcz22_0 : w21.cell? ⟨gb281, 0, none⟩ = some (.string a0_0) := (blk_cell BK281.out 0).trans rfl; have hcz22_1 : w21.cell? ⟨gb281, 1, none⟩ = some (.int .i64 a0_1) := (blk_cell BK281.out 1).trans rfl; have hcz22_2 : w21.cell? ⟨gb281, 2, none⟩ = some (.slice A0_2 l0_2.length c0_2) := (blk_cell BK281.out 2).trans rfl; have hfz22_0 := blk_frozen BK281.out 0; have hfz22_1 := blk_frozen BK281.out 1; have hfz22_2 := blk_frozen BK281.out 2) | ((with_reducible refine gate_callee (f := 15) rfl ?_); refine goesL_ (some 18) rfl rfl Tryd.func15 (by kernel_rfl) rfl #[.agg #[.string a0_0, .int .i64 a0_1, .slice A0_2 l0_2.length c0_2], .int .i64 1048576] rfl zb2_10 ?_; (with_reducible refine (laws_szDialback.calls k a0_0 a0_1 _ _ l0_2 1048576 t282 _ ?side1 ?side2 A5.out).mono ?_); (case side1 => repeat (first | exact (Kd.C_below HR0_2.out HB.out) | (with_reducible refine Kd.C_alloc ?_ _) | (with_reducible refine Kd.C_drewN ?_ _) | (with_reducible refine Kd.C_drew ?_))); (case side2 => exact HC0_2.out); rintro e w23 ⟨rfl, hb⟩; refine ⟨_, rfl, ?_⟩; have n0_ := Aside0.mk (blk_below (g := gb281) (o := .cells #[.string a0_0, .int .i64 a0_1, .slice A0_2 l0_2.length c0_2] 35 (0, 0)) zb3_10 hb); have n1_ := Aside0.mk (below_step zb4_10 hb); clear BK281; clear HB; have BK281 := n0_; have HB := n1_; clear n0_ n1_; (try clear hb); (try clear hb2); (try clear hk); (try clear hi); have hcz24_0 : w23.cell? ⟨gb281, 0, none⟩ = some (.string a0_0) := (blk_cell BK281.out 0).trans rfl; have hcz24_1 : w23.cell? ⟨gb281, 1, none⟩ = some (.int .i64 a0_1) := (blk_cell BK281.out 1).trans rfl; have hcz24_2 : w23.cell? ⟨gb281, 2, none⟩ = some (.slice A0_2 l0_2.length c0_2) := (blk_cell BK281.out 2).trans rfl; have hfz24_0 := blk_frozen BK281.out 0; have hfz24_1 := blk_frozen BK281.out 1; have hfz24_2 := blk_frozen BK281.out 2) | ((with_reducible refine gate_callee (f := 17) rfl ?_); refine goesL_ (some 22) rfl rfl Tryd.func17 (by kernel_rfl) rfl #[.agg #[.string a0_0, .int .i64 a0_1, .slice A0_2 l0_2.length c0_2]] rfl zb2_10 ?_; (with_reducible refine (laws_toDialback.calls k a0_0 a0_1 _ _ l0_2 t283 t284 t285 _ ?side1 ?side2 A10.out).mono ?_); (case side1 => repeat (first | exact (Kd.C_below HR0_2.out HB.out) | (with_reducible refine Kd.C_alloc ?_ _) | (with_reducible refine Kd.C_drewN ?_ _) | (with_reducible refine Kd.C_drew ?_))); (case side2 => exact HC0_2.out); rintro e w25 ⟨v286, rfl, ho0, hb⟩; refine ⟨_, rfl, ?_⟩; have n0_ := Aside0.mk (Kd.R_lower ho0 (below_size zb4_10)); have n1_ := Aside0.mk (blk_below (g := gb281) (o := .cells #[.string a0_0, .int .i64 a0_1, .slice A0_2 l0_2.length c0_2] 35 (0, 0)) zb3_10 hb); have n2_ := Aside0.mk (below_step zb4_10 hb); clear BK281; clear HB; have HO287 := n0_; have BK281 := n1_; have HB := n2_; clear n0_ n1_ n2_; (try clear hb); (try clear hb2); (try clear hk); (try clear hi); (try clear ho0); obtain ⟨Ao26, co26, eo26⟩ := Kd.R_slice HO287.out; subst eo26) | ((with_reducible refine gate_callee (f := 26) rfl ?_); refine goesL_ (some 24) rfl rfl Tryd.func26 (by kernel_rfl) rfl #[.agg #[.string t283, .int .i64 t284, .slice Ao26 t285.length co26], .string a1] rfl zb2_10 ?_; (with_reducible refine (spec_DbOpen.calls k t283 t284 _ _ t285 a1 t288 t289 t290 t293 t294 _ ?side1 ?side2 A11.out).mono ?_); (case side1 => repeat (first | exact (Kd.R_reads' HO287.out).2.2 | (with_reducible refine Kd.C_alloc ?_ _) | (with_reducible refine Kd.C_drewN ?_ _) | (with_reducible refine Kd.C_drew ?_))); (case side2 => exact (Kd.R_reads' HO287.out).2.1); rintro e w27 ⟨v291, rfl, ho0, hb⟩; refine ⟨_, rfl, ?_⟩; have n0_ := Aside0.mk (Kd.R_elder' zb5_10 (Kd.R_base ho0) hb); have n1_ := Aside0.mk (Kd.R_lower (Kd.R_new' ho0 (Kd.R_lt zb5_10)) (below_size zb4_10)); have n2_ := Aside0.mk (blk_below (g := gb281) (o := .cells #[.string a0_0, .int .i64 a0_1, .slice A0_2 l0_2.length c0_2] 35 (0, 0)) zb3_10 hb); have n3_ := Aside0.mk (below_step zb4_10 hb); clear HO287; clear BK281; clear HB; have HO287 := n0_; have HO292 := n1_; have BK281 := n2_; have HB := n3_; clear n0_ n1_ n2_ n3_; (try clear hb); (try clear hb2); (try clear hk); (try clear hi); (try clear ho0)) | ((with_reducible refine gate_dst (N := 6) rfl ?_); refine box_event ?hg (N := 6) ?hd (cs := #[.string (⟨#[]⟩ : ByteArray), .int .i64 0, .slice none 0 0, .int .i64 0, .int .i64 0]) (t := 51) ?hr ?_; (case hd => rfl); (case hg => rfl); (case hr => first | (go_simp; done) | (go_simp; rfl)); intro gb295 hg w28 hbox hb; have n0_ := Aside0.mk (Kd.R_below zb5_10 hb); have n1_ := Aside0.mk (Kd.R_below zb6_10 hb); have n2_ := Aside0.mk (blk_below (g := gb281) (o := .cells #[.string a0_0, .int .i64 a0_1, .slice A0_2 l0_2.length c0_2] 35 (0, 0)) zb3_10 hb); have n3_ := Aside0.mk (below_step zb4_10 hb); have n4_ := Aside0.mk (hbox); have n5_ := Aside0.mk ((by rw [hg]; exact (below_size zb4_10) : w.heap.size ≤ gb295)); have n6_ := Aside0.mk ((by rw [hg]; exact (below_size zb4_10) : w.heap.size ≤ gb295)); have n7_ := Aside0.mk ((zb7_10 : gb281 ≠ gb295)); have n8_ := Aside0.mk ((zb8_10 : gb295 ≠ gb281)); clear HO287; clear HO292; clear BK281; clear HB; have HO287 := n0_; have HO292 := n1_; have BK281 := n2_; have HB := n3_; have BK295 := n4_; have GW295 := n5_; have GE295 := n6_; have NB281_295 := n7_; have NB295_281 := n8_; clear n0_ n1_ n2_ n3_ n4_ n5_ n6_ n7_ n8_; clear hb hbox hg; have hnb29 := NB295_281.out; have hnc29 := NB281_295.out; have hcz30_0 : w28.cell? ⟨gb295, 0, none⟩ = some (.string (⟨#[]⟩ : ByteArray)) := (blk_cell BK295.out 0).trans rfl; have hcz30_1 : w28.cell? ⟨gb295, 1, none⟩ = some (.int .i64 0) := (blk_cell BK295.out 1).trans rfl; have hcz30_2 : w28.cell? ⟨gb295, 2, none⟩ = some (.slice none 0 0) := (blk_cell BK295.out 2).trans rfl; have hcz30_3 : w28.cell? ⟨gb295, 3, none⟩ = some (.int .i64 0) := (blk_cell BK295.out 3).trans rfl; have hcz30_4 : w28.cell? ⟨gb295, 4, none⟩ = some (.int .i64 0) := (blk_cell BK295.out 4).trans rfl; have hfz30_0 := blk_frozen BK295.out 0; have hfz30_1 := blk_frozen BK295.out 1; have hfz30_2 := blk_frozen BK295.out 2; have hfz30_3 := blk_frozen BK295.out 3; have hfz30_4 := blk_frozen BK295.out 4; obtain ⟨Ao31, co31, eo31⟩ := Kd.R_slice HO292.out; subst eo31; have hcz32_0 : w28.cell? ⟨gb281, 0, none⟩ = some (.string a0_0) := (blk_cell BK281.out 0).trans rfl; have hcz32_1 : w28.cell? ⟨gb281, 1, none⟩ = some (.int .i64 a0_1) := (blk_cell BK281.out 1).trans rfl; have hcz32_2 : w28.cell? ⟨gb281, 2, none⟩ = some (.slice A0_2 l0_2.length c0_2) := (blk_cell BK281.out 2).trans rfl; have hfz32_0 := blk_frozen BK281.out 0; have hfz32_1 := blk_frozen BK281.out 1; have hfz32_2 := blk_frozen BK281.out 2) | ((with_reducible refine gate_callee (f := 17) rfl ?_); refine goesL_ (some 26) rfl rfl Tryd.func17 (by kernel_rfl) rfl #[.agg #[.string a0_0, .int .i64 a0_1, .slice A0_2 l0_2.length c0_2]] rfl zb2_10 ?_; (with_reducible refine (laws_toDialback.calls k a0_0 a0_1 _ _ l0_2 t296 t297 t298 _ ?side1 ?side2 A12.out).mono ?_); (case side1 => exact Kd.C_below HR0_2.out zb9_10); (case side2 => exact HC0_2.out); rintro e w33 ⟨v299, rfl, ho0, hb⟩; refine ⟨_, rfl, ?_⟩; have n0_ := Aside0.mk (Kd.R_elder' (by (with_reducible repeat (first | apply Kd.R_alloc | apply Kd.R_drewN | apply Kd.R_drew)); exact (Kd.R_mono (Kd.R_far (p := ⟨gb295, 4, none⟩) (Kd.R_far (p := ⟨gb295, 3, none⟩) (Kd.R_far (p := ⟨gb295, 2, none⟩) (Kd.R_far (p := ⟨gb295, 1, none⟩) (Kd.R_far (p := ⟨gb295, 0, none⟩) (Kd.R_types HO287.out BK295.out (by decide)) (fun _ hk => hk.2) (.string t288)) (fun _ hk => hk.2) (.int .i64 t289)) (fun _ hk => hk.2) (.slice Ao31 t290.length co31)) (fun _ hk => hk.2) (.int .i64 t293)) (fun _ hk => hk.2) (.int .i64 t294)) (fun _ h_ => h_.1))) (Kd.R_base ho0) hb); have n1_ := Aside0.mk (Kd.R_elder' (by (with_reducible repeat (first | apply Kd.R_alloc | apply Kd.R_drewN | apply Kd.R_drew)); exact (Kd.R_mono (Kd.R_far (p := ⟨gb295, 4, none⟩) (Kd.R_far (p := ⟨gb295, 3, none⟩) (Kd.R_far (p := ⟨gb295, 2, none⟩) (Kd.R_far (p := ⟨gb295, 1, none⟩) (Kd.R_far (p := ⟨gb295, 0, none⟩) (Kd.R_types HO292.out BK295.out (by decide)) (fun _ hk => hk.2) (.string t288)) (fun _ hk => hk.2) (.int .i64 t289)) (fun _ hk => hk.2) (.slice Ao31 t290.length co31)) (fun _ hk => hk.2) (.int .i64 t293)) (fun _ hk => hk.2) (.int .i64 t294)) (fun _ h_ => h_.1))) (Kd.R_base ho0) hb); have n2_ := Aside0.mk (Kd.R_lower (Kd.R_new' (Kd.R_new' ho0 (Kd.R_lt (by (with_reducible repeat (first | apply Kd.R_alloc | apply Kd.R_drewN | apply Kd.R_drew)); exact (Kd.R_mono (Kd.R_far (p := ⟨gb295, 4, none⟩) (Kd.R_far (p := ⟨gb295, 3, none⟩) (Kd.R_far (p := ⟨gb295, 2, none⟩) (Kd.R_far (p := ⟨gb295, 1, none⟩) (Kd.R_far (p := ⟨gb295, 0, none⟩) (Kd.R_types HO287.out BK295.out (by decide)) (fun _ hk => hk.2) (.string t288)) (fun _ hk => hk.2) (.int .i64 t289)) (fun _ hk => hk.2) (.slice Ao31 t290.length co31)) (fun _ hk => hk.2) (.int .i64 t293)) (fun _ hk => hk.2) (.int .i64 t294)) (fun _ h_ => h_.1))))) (Kd.R_lt (by (with_reducible repeat (first | apply Kd.R_alloc | apply Kd.R_drewN | apply Kd.R_drew)); exact (Kd.R_mono (Kd.R_far (p := ⟨gb295, 4, none⟩) (Kd.R_far (p := ⟨gb295, 3, none⟩) (Kd.R_far (p := ⟨gb295, 2, none⟩) (Kd.R_far (p := ⟨gb295, 1, none⟩) (Kd.R_far (p := ⟨gb295, 0, none⟩) (Kd.R_types HO292.out BK295.out (by decide)) (fun _ hk => hk.2) (.string t288)) (fun _ hk => hk.2) (.int .i64 t289)) (fun _ hk => hk.2) (.slice Ao31 t290.length co31)) (fun _ hk => hk.2) (.int .i64 t293)) (fun _ hk => hk.2) (.int .i64 t294)) (fun _ h_ => h_.1))))) (below_size zb9_10)); have n3_ := Aside0.mk (blk_below (g := gb281) (o := .cells #[.string a0_0, .int .i64 a0_1, .slice A0_2 l0_2.length c0_2] 35 (0, 0)) (by (with_reducible repeat (first | refine blk_drewN ?_ _ | refine blk_drew ?_ | refine blk_alloc ?_ _)); refine blk_far ?_ NB281_295.out _; (with_reducible repeat (first | refine blk_drewN ?_ _ | refine blk_drew ?_ | refine blk_alloc ?_ _)); refine blk_far ?_ NB281_295.out _; (with_reducible repeat (first | refine blk_drewN ?_ _ | refine blk_drew ?_ | refine blk_alloc ?_ _)); refine blk_far ?_ NB281_295.out _; (with_reducible repeat (first | refine blk_drewN ?_ _ | refine blk_drew ?_ | refine blk_alloc ?_ _)); refine blk_far ?_ NB281_295.out _; (with_reducible repeat (first | refine blk_drewN ?_ _ | refine blk_drew ?_ | refine blk_alloc ?_ _)); refine blk_far ?_ NB281_295.out _; (with_reducible repeat (first | refine blk_drewN ?_ _ | refine blk_drew ?_ | refine blk_alloc ?_ _)); exact BK281.out) hb); have n4_ := Aside0.mk (blk_below (g := gb295) (o := .cells #[.string t288, .int .i64 t289, .slice Ao31 t290.length co31, .int .i64 t293, .int .i64 t294] 51 (0, 0)) (by (with_reducible repeat (first | refine blk_drewN ?_ _ | refine blk_drew ?_ | refine blk_alloc ?_ _)); refine blk_put (cs := #[.string t288, .int .i64 t289, .slice Ao31 t290.length co31, .int .i64 t293, .int .i64 0]) ?_ 4 _ rfl; (with_reducible repeat (first | refine blk_drewN ?_ _ | refine blk_drew ?_ | refine blk_alloc ?_ _)); refine blk_put (cs := #[.string t288, .int .i64 t289, .slice Ao31 t290.length co31, .int .i64 0, .int .i64 0]) ?_ 3 _ rfl; (with_reducible repeat (first | refine blk_drewN ?_ _ | refine blk_drew ?_ | refine blk_alloc ?_ _)); refine blk_put (cs := #[.string t288, .int .i64 t289, .slice none 0 0, .int .i64 0, .int .i64 0]) ?_ 2 _ rfl; (with_reducible repeat (first | refine blk_drewN ?_ _ | refine blk_drew ?_ | refine blk_alloc ?_ _)); refine blk_put (cs := #[.string t288, .int .i64 0, .slice none 0 0, .int .i64 0, .int .i64 0]) ?_ 1 _ rfl; (with_reducible repeat (first | refine blk_drewN ?_ _ | refine blk_drew ?_ | refine blk_alloc ?_ _)); refine blk_put (cs := #[.string (⟨#[]⟩ : ByteArray), .int .i64 0, .slice none 0 0, .int .i64 0, .int .i64 0]) ?_ 0 _ rfl; (with_reducible repeat (first | refine blk_drewN ?_ _ | refine blk_drew ?_ | refine blk_alloc ?_ _)); exact BK295.out) hb); have n5_ := Aside0.mk (below_step zb9_10 hb); clear HO287; clear HO292; clear BK281; clear BK295; clear HB; have HO287 := n0_; have HO292 := n1_; have HO300 := n2_; have BK281 := n3_; have BK295 := n4_; have HB := n5_; clear n0_ n1_ n2_ n3_ n4_ n5_; (try clear hb); (try clear hb2); (try clear hk); (try clear hi); (try clear ho0)) | ((with_reducible refine gate_dst (N := 7) rfl ?_); refine box_event ?hg (N := 7) ?hd (cs := #[.string (⟨#[]⟩ : ByteArray), .int .i64 0, .slice none 0 0]) (t := 40) ?hr ?_; (case hd => rfl); (case hg => rfl); (case hr => first | (go_simp; done) | (go_simp; rfl)); intro gb301 hg w34 hbox hb; have n0_ := Aside0.mk (Kd.R_below zb5_10 hb); have n1_ := Aside0.mk (Kd.R_below zb6_10 hb); have n2_ := Aside0.mk (Kd.R_below zb10_10 hb); have n3_ := Aside0.mk (blk_below (g := gb281) (o := .cells #[.string a0_0, .int .i64 a0_1, .slice A0_2 l0_2.length c0_2] 35 (0, 0)) zb3_10 hb); have n4_ := Aside0.mk (blk_below (g := gb295) (o := .cells #[.string t288, .int .i64 t289, .slice Ao31 t290.length co31, .int .i64 t293, .int .i64 t294] 51 (0, 0)) zb11_10 hb); have n5_ := Aside0.mk (below_step zb9_10 hb); have n6_ := Aside0.mk (hbox); have n7_ := Aside0.mk ((by rw [hg]; exact (below_size zb9_10) : w.heap.size ≤ gb301)); have n8_ := Aside0.mk ((by rw [hg]; exact (below_size zb9_10) : w.heap.size ≤ gb301)); have n9_ := Aside0.mk ((zb7_10 : gb281 ≠ gb301)); have n10_ := Aside0.mk ((zb8_10 : gb301 ≠ gb281)); have n11_ := Aside0.mk ((zb12_10 : gb295 ≠ gb301)); have n12_ := Aside0.mk ((zb13_10 : gb301 ≠ gb295)); clear HO287; clear HO292; clear HO300; clear BK281; clear BK295; clear HB; have HO287 := n0_; have HO292 := n1_; have HO300 := n2_; have BK281 := n3_; have BK295 := n4_; have HB := n5_; have BK301 := n6_; have GW301 := n7_; have GE301 := n8_; have NB281_301 := n9_; have NB301_281 := n10_; have NB295_301 := n11_; have NB301_295 := n12_; clear n0_ n1_ n2_ n3_ n4_ n5_ n6_ n7_ n8_ n9_ n10_ n11_ n12_; clear hb hbox hg; have hnb35 := NB301_281.out; have hnc35 := NB281_301.out; have hnb36 := NB301_295.out; have hnc36 := NB295_301.out; have hcz37_0 : w34.cell? ⟨gb301, 0, none⟩ = some (.string (⟨#[]⟩ : ByteArray)) := (blk_cell BK301.out 0).trans rfl; have hcz37_1 : w34.cell? ⟨gb301, 1, none⟩ = some (.int .i64 0) := (blk_cell BK301.out 1).trans rfl; have hcz37_2 : w34.cell? ⟨gb301, 2, none⟩ = some (.slice none 0 0) := (blk_cell BK301.out 2).trans rfl; have hfz37_0 := blk_frozen BK301.out 0; have hfz37_1 := blk_frozen BK301.out 1; have hfz37_2 := blk_frozen BK301.out 2; obtain ⟨Ao38, co38, eo38⟩ := Kd.R_slice HO300.out; subst eo38) | ((with_reducible refine gate_callee (f := 27) rfl ?_); refine goesL_ (some 29) rfl rfl Tryd.func27 (by kernel_rfl) rfl #[.agg #[.string t296, .int .i64 t297, .slice Ao38 t298.length co38], .string a1] rfl zb2_10 ?_; (with_reducible refine (impl_DbOpen.calls k t296 t297 _ _ t298 a1 t302 t303 t304 t307 t308 _ ?side1 ?side2 A13.out (by first | exact hmx | exact hmx.below HB.out | exact hmx.below (by repeat (first | (with_reducible first | exact HB.out | apply below_alloc | apply pw_below_drewN | apply below_drew1 | refine below_set ?_ GE281.out | refine below_set ?_ GE295.out | refine below_set ?_ GE301.out | refine below_set ?_ GE309.out | refine below_set ?_ GE335.out | exact Below.refl _ _) | exact HB.out | exact Below.refl _ _)))).mono ?_); (case side1 => refine (Kd.R_reads' (e := 71) (base := w.heap.size) (ok := fun k_ => ((True ∧ some k_ ≠ (.slice Ao26 t285.length co26 : Value).ownBlock) ∧ some k_ ≠ (.slice Ao31 t290.length co31 : Value).ownBlock)) (n := t298.length) (c := co38) ?_).2.2; exact zb14_10); (case side2 => exact (Kd.R_reads' HO300.out).2.1); rintro e w39 ⟨v305, rfl, ho0, hb⟩; refine ⟨_, rfl, ?_⟩; have n0_ := Aside0.mk (Kd.R_elder' (by (with_reducible repeat (first | apply Kd.R_alloc | apply Kd.R_drewN | apply Kd.R_drew)); exact (Kd.R_mono (Kd.R_far (p := ⟨gb301, 2, none⟩) (Kd.R_far (p := ⟨gb301, 1, none⟩) (Kd.R_far (p := ⟨gb301, 0, none⟩) (Kd.R_types HO287.out BK301.out (by decide)) (fun _ hk => hk.2) (.string t296)) (fun _ hk => hk.2) (.int .i64 t297)) (fun _ hk => hk.2) (.slice Ao38 t298.length co38)) (fun _ h_ => h_.1))) (Kd.R_base ho0) hb); have n1_ := Aside0.mk (Kd.R_elder' (by (with_reducible repeat (first | apply Kd.R_alloc | apply Kd.R_drewN | apply Kd.R_drew)); exact (Kd.R_mono (Kd.R_far (p := ⟨gb301, 2, none⟩) (Kd.R_far (p := ⟨gb301, 1, none⟩) (Kd.R_far (p := ⟨gb301, 0, none⟩) (Kd.R_types HO292.out BK301.out (by decide)) (fun _ hk => hk.2) (.string t296)) (fun _ hk => hk.2) (.int .i64 t297)) (fun _ hk => hk.2) (.slice Ao38 t298.length co38)) (fun _ h_ => h_.1))) (Kd.R_base ho0) hb); have n2_ := Aside0.mk (Kd.R_elder' zb14_10 (Kd.R_base ho0) hb); have n3_ := Aside0.mk (Kd.R_lower (Kd.R_new' (Kd.R_new' (Kd.R_new' ho0 (Kd.R_lt (by (with_reducible repeat (first | apply Kd.R_alloc | apply Kd.R_drewN | apply Kd.R_drew)); exact (Kd.R_mono (Kd.R_far (p := ⟨gb301, 2, none⟩) (Kd.R_far (p := ⟨gb301, 1, none⟩) (Kd.R_far (p := ⟨gb301, 0, none⟩) (Kd.R_types HO287.out BK301.out (by decide)) (fun _ hk => hk.2) (.string t296)) (fun _ hk => hk.2) (.int .i64 t297)) (fun _ hk => hk.2) (.slice Ao38 t298.length co38)) (fun _ h_ => h_.1))))) (Kd.R_lt (by (with_reducible repeat (first | apply Kd.R_alloc | apply Kd.R_drewN | apply Kd.R_drew)); exact (Kd.R_mono (Kd.R_far (p := ⟨gb301, 2, none⟩) (Kd.R_far (p := ⟨gb301, 1, none⟩) (Kd.R_far (p := ⟨gb301, 0, none⟩) (Kd.R_types HO292.out BK301.out (by decide)) (fun _ hk => hk.2) (.string t296)) (fun _ hk => hk.2) (.int .i64 t297)) (fun _ hk => hk.2) (.slice Ao38 t298.length co38)) (fun _ h_ => h_.1))))) (Kd.R_lt zb14_10)) (below_size zb15_10)); have n4_ := Aside0.mk (blk_below (g := gb281) (o := .cells #[.string a0_0, .int .i64 a0_1, .slice A0_2 l0_2.length c0_2] 35 (0, 0)) (by (with_reducible repeat (first | refine blk_drewN ?_ _ | refine blk_drew ?_ | refine blk_alloc ?_ _)); refine blk_far ?_ NB281_301.out _; (with_reducible repeat (first | refine blk_drewN ?_ _ | refine blk_drew ?_ | refine blk_alloc ?_ _)); refine blk_far ?_ NB281_301.out _; (with_reducible repeat (first | refine blk_drewN ?_ _ | refine blk_drew ?_ | refine blk_alloc ?_ _)); refine blk_far ?_ NB281_301.out _; (with_reducible repeat (first | refine blk_drewN ?_ _ | refine blk_drew ?_ | refine blk_alloc ?_ _)); exact BK281.out) hb); have n5_ := Aside0.mk (blk_below (g := gb295) (o := .cells #[.string t288, .int .i64 t289, .slice Ao31 t290.length co31, .int .i64 t293, .int .i64 t294] 51 (0, 0)) (by (with_reducible repeat (first | refine blk_drewN ?_ _ | refine blk_drew ?_ | refine blk_alloc ?_ _)); refine blk_far ?_ NB295_301.out _; (with_reducible repeat (first | refine blk_drewN ?_ _ | refine blk_drew ?_ | refine blk_alloc ?_ _)); refine blk_far ?_ NB295_301.out _; (with_reducible repeat (first | refine blk_drewN ?_ _ | refine blk_drew ?_ | refine blk_alloc ?_ _)); refine blk_far ?_ NB295_301.out _; (with_reducible repeat (first | refine blk_drewN ?_ _ | refine blk_drew ?_ | refine blk_alloc ?_ _)); exact BK295.out) hb); have n6_ := Aside0.mk (blk_below (g := gb301) (o := .cells #[.string t296, .int .i64 t297, .slice Ao38 t298.length co38] 40 (0, 0)) (by (with_reducible repeat (first | refine blk_drewN ?_ _ | refine blk_drew ?_ | refine blk_alloc ?_ _)); refine blk_put (cs := #[.string t296, .int .i64 t297, .slice none 0 0]) ?_ 2 _ rfl; (with_reducible repeat (first | refine blk_drewN ?_ _ | refine blk_drew ?_ | refine blk_alloc ?_ _)); refine blk_put (cs := #[.string t296, .int .i64 0, .slice none 0 0]) ?_ 1 _ rfl; (with_reducible repeat (first | refine blk_drewN ?_ _ | refine blk_drew ?_ | refine blk_alloc ?_ _)); refine blk_put (cs := #[.string (⟨#[]⟩ : ByteArray), .int .i64 0, .slice none 0 0]) ?_ 0 _ rfl; (with_reducible repeat (first | refine blk_drewN ?_ _ | refine blk_drew ?_ | refine blk_alloc ?_ _)); exact BK301.out) hb); have n7_ := Aside0.mk (below_step zb15_10 hb); clear HO287; clear HO292; clear HO300; clear BK281; clear BK295; clear BK301; clear HB; have HO287 := n0_; have HO292 := n1_; have HO300 := n2_; have HO306 := n3_; have BK281 := n4_; have BK295 := n5_; have BK301 := n6_; have HB := n7_; clear n0_ n1_ n2_ n3_ n4_ n5_ n6_ n7_; (try clear hb); (try clear hb2); (try clear hk); (try clear hi); (try clear ho0)) | ((with_reducible refine gate_dst (N := 8) rfl ?_); refine box_event ?hg (N := 8) ?hd (cs := #[.string (⟨#[]⟩ : ByteArray), .int .i64 0, .slice none 0 0, .int .i64 0, .int .i64 0]) (t := 51) ?hr ?_; (case hd => rfl); (case hg => rfl); (case hr => first | (go_simp; done) | (go_simp; rfl)); intro gb309 hg w40 hbox hb; have n0_ := Aside0.mk (Kd.R_below zb5_10 hb); have n1_ := Aside0.mk (Kd.R_below zb6_10 hb); have n2_ := Aside0.mk (Kd.R_below zb10_10 hb); have n3_ := Aside0.mk (Kd.R_below zb16_10 hb); have n4_ := Aside0.mk (blk_below (g := gb281) (o := .cells #[.string a0_0, .int .i64 a0_1, .slice A0_2 l0_2.length c0_2] 35 (0, 0)) zb3_10 hb); have n5_ := Aside0.mk (blk_below (g := gb295) (o := .cells #[.string t288, .int .i64 t289, .slice Ao31 t290.length co31, .int .i64 t293, .int .i64 t294] 51 (0, 0)) zb11_10 hb); have n6_ := Aside0.mk (blk_below (g := gb301) (o := .cells #[.string t296, .int .i64 t297, .slice Ao38 t298.length co38] 40 (0, 0)) zb17_10 hb); have n7_ := Aside0.mk (below_step zb15_10 hb); have n8_ := Aside0.mk (hbox); have n9_ := Aside0.mk ((by rw [hg]; exact (below_size zb15_10) : w.heap.size ≤ gb309)); have n10_ := Aside0.mk ((by rw [hg]; exact (below_size zb15_10) : w.heap.size ≤ gb309)); have n11_ := Aside0.mk ((zb7_10 : gb281 ≠ gb309)); have n12_ := Aside0.mk ((zb8_10 : gb309 ≠ gb281)); have n13_ := Aside0.mk ((zb12_10 : gb295 ≠ gb309)); have n14_ := Aside0.mk ((zb13_10 : gb309 ≠ gb295)); have n15_ := Aside0.mk ((by rw [hg]; exact Nat.ne_of_lt (blk_lt (g := gb301) (o := .cells #[.string t296, .int .i64 t297, .slice Ao38 t298.length co38] 40 (0, 0)) zb17_10) : gb301 ≠ gb309)); have n16_ := Aside0.mk ((by rw [hg]; exact Nat.ne_of_gt (blk_lt (g := gb301) (o := .cells #[.string t296, .int .i64 t297, .slice Ao38 t298.length co38] 40 (0, 0)) zb17_10) : gb309 ≠ gb301)); clear HO287; clear HO292; clear HO300; clear HO306; clear BK281; clear BK295; clear BK301; clear HB; have HO287 := n0_; have HO292 := n1_; have HO300 := n2_; have HO306 := n3_; have BK281 := n4_; have BK295 := n5_; have BK301 := n6_; have HB := n7_; have BK309 := n8_; have GW309 := n9_; have GE309 := n10_; have NB281_309 := n11_; have NB309_281 := n12_; have NB295_309 := n13_; have NB309_295 := n14_; have NB301_309 := n15_; have NB309_301 := n16_; clear n0_ n1_ n2_ n3_ n4_ n5_ n6_ n7_ n8_ n9_ n10_ n11_ n12_ n13_ n14_ n15_ n16_; clear hb hbox hg; have hnb41 := NB309_281.out; have hnc41 := NB281_309.out; have hnb42 := NB309_295.out; have hnc42 := NB295_309.out; have hnb43 := NB309_301.out; have hnc43 := NB301_309.out; have hcz44_0 : w40.cell? ⟨gb309, 0, none⟩ = some (.string (⟨#[]⟩ : ByteArray)) := (blk_cell BK309.out 0).trans rfl; have hcz44_1 : w40.cell? ⟨gb309, 1, none⟩ = some (.int .i64 0) := (blk_cell BK309.out 1).trans rfl; have hcz44_2 : w40.cell? ⟨gb309, 2, none⟩ = some (.slice none 0 0) := (blk_cell BK309.out 2).trans rfl; have hcz44_3 : w40.cell? ⟨gb309, 3, none⟩ = some (.int .i64 0) := (blk_cell BK309.out 3).trans rfl; have hcz44_4 : w40.cell? ⟨gb309, 4, none⟩ = some (.int .i64 0) := (blk_cell BK309.out 4).trans rfl; have hfz44_0 := blk_frozen BK309.out 0; have hfz44_1 := blk_frozen BK309.out 1; have hfz44_2 := blk_frozen BK309.out 2; have hfz44_3 := blk_frozen BK309.out 3; have hfz44_4 := blk_frozen BK309.out 4; obtain ⟨Ao45, co45, eo45⟩ := Kd.R_slice HO306.out; subst eo45; have hcz46_0 : w40.cell? ⟨gb295, 0, none⟩ = some (.string t288) := (blk_cell BK295.out 0).trans rfl; have hcz46_1 : w40.cell? ⟨gb295, 1, none⟩ = some (.int .i64 t289) := (blk_cell BK295.out 1).trans rfl; have hcz46_2 : w40.cell? ⟨gb295, 2, none⟩ = some (.slice Ao31 t290.length co31) := (blk_cell BK295.out 2).trans rfl; have hcz46_3 : w40.cell? ⟨gb295, 3, none⟩ = some (.int .i64 t293) := (blk_cell BK295.out 3).trans rfl; have hcz46_4 : w40.cell? ⟨gb295, 4, none⟩ = some (.int .i64 t294) := (blk_cell BK295.out 4).trans rfl; have hfz46_0 := blk_frozen BK295.out 0; have hfz46_1 := blk_frozen BK295.out 1; have hfz46_2 := blk_frozen BK295.out 2; have hfz46_3 := blk_frozen BK295.out 3; have hfz46_4 := blk_frozen BK295.out 4) | ((with_reducible refine gate_callee (f := 28) rfl ?_); refine goesL_ (some 32) rfl rfl Tryd.func28 (by kernel_rfl) rfl #[.agg #[.string t302, .int .i64 t303, .slice Ao45 t304.length co45, .int .i64 t307, .int .i64 t308], .agg #[.string t288, .int .i64 t289, .slice Ao31 t290.length co31, .int .i64 t293, .int .i64 t294]] rfl zb2_10 ?_; (with_reducible refine (laws_eqDialbackOut.calls k t302 t303 _ _ t304 t307 t308 t288 t289 _ _ t290 t293 t294 true _ ?side1 ?side2 ?side3 ?side4 A14.out).mono ?_); (case side1 => refine (Kd.R_reads' (e := 71) (base := w.heap.size) (ok := fun k_ => (((True ∧ some k_ ≠ (.slice Ao26 t285.length co26 : Value).ownBlock) ∧ some k_ ≠ (.slice Ao31 t290.length co31 : Value).ownBlock) ∧ some k_ ≠ (.slice Ao38 t298.length co38 : Value).ownBlock)) (n := t304.length) (c := co45) ?_).2.2; exact (by (with_reducible repeat (first | apply Kd.R_alloc | apply Kd.R_drewN | apply Kd.R_drew)); exact (Kd.R_mono (Kd.R_far (p := ⟨gb309, 4, none⟩) (Kd.R_far (p := ⟨gb309, 3, none⟩) (Kd.R_far (p := ⟨gb309, 2, none⟩) (Kd.R_far (p := ⟨gb309, 1, none⟩) (Kd.R_far (p := ⟨gb309, 0, none⟩) (Kd.R_types HO306.out BK309.out (by decide)) (fun _ hk => hk.2) (.string t302)) (fun _ hk => hk.2) (.int .i64 t303)) (fun _ hk => hk.2) (.slice Ao45 t304.length co45)) (fun _ hk => hk.2) (.int .i64 t307)) (fun _ hk => hk.2) (.int .i64 t308)) (fun _ h_ => h_.1)))); (case side2 => exact (Kd.R_reads' HO306.out).2.1); (case side3 => refine (Kd.R_reads' (e := 71) (base := w.heap.size) (ok := fun k_ => (((True ∧ some k_ ≠ (.slice Ao26 t285.length co26 : Value).ownBlock) ∧ some k_ ≠ (.slice Ao38 t298.length co38 : Value).ownBlock) ∧ some k_ ≠ (.slice Ao45 t304.length co45 : Value).ownBlock)) (n := t290.length) (c := co31) ?_).2.2; exact (by (with_reducible repeat (first | apply Kd.R_alloc | apply Kd.R_drewN | apply Kd.R_drew)); exact (Kd.R_mono (Kd.R_far (p := ⟨gb309, 4, none⟩) (Kd.R_far (p := ⟨gb309, 3, none⟩) (Kd.R_far (p := ⟨gb309, 2, none⟩) (Kd.R_far (p := ⟨gb309, 1, none⟩) (Kd.R_far (p := ⟨gb309, 0, none⟩) (Kd.R_types HO292.out BK309.out (by decide)) (fun _ hk => hk.2) (.string t302)) (fun _ hk => hk.2) (.int .i64 t303)) (fun _ hk => hk.2) (.slice Ao45 t304.length co45)) (fun _ hk => hk.2) (.int .i64 t307)) (fun _ hk => hk.2) (.int .i64 t308)) (fun _ h_ => h_.1)))); (case side4 => exact (Kd.R_reads' HO292.out).2.1); rintro e w47 ⟨rfl, hb⟩; refine ⟨_, rfl, ?_⟩; have n0_ := Aside0.mk (Kd.R_below (by (with_reducible repeat (first | apply Kd.R_alloc | apply Kd.R_drewN | apply Kd.R_drew)); exact (Kd.R_mono (Kd.R_far (p := ⟨gb309, 4, none⟩) (Kd.R_far (p := ⟨gb309, 3, none⟩) (Kd.R_far (p := ⟨gb309, 2, none⟩) (Kd.R_far (p := ⟨gb309, 1, none⟩) (Kd.R_far (p := ⟨gb309, 0, none⟩) (Kd.R_types HO287.out BK309.out (by decide)) (fun _ hk => hk.2) (.string t302)) (fun _ hk => hk.2) (.int .i64 t303)) (fun _ hk => hk.2) (.slice Ao45 t304.length co45)) (fun _ hk => hk.2) (.int .i64 t307)) (fun _ hk => hk.2) (.int .i64 t308)) (fun _ h_ => h_.1))) hb); have n1_ := Aside0.mk (Kd.R_below (by (with_reducible repeat (first | apply Kd.R_alloc | apply Kd.R_drewN | apply Kd.R_drew)); exact (Kd.R_mono (Kd.R_far (p := ⟨gb309, 4, none⟩) (Kd.R_far (p := ⟨gb309, 3, none⟩) (Kd.R_far (p := ⟨gb309, 2, none⟩) (Kd.R_far (p := ⟨gb309, 1, none⟩) (Kd.R_far (p := ⟨gb309, 0, none⟩) (Kd.R_types HO292.out BK309.out (by decide)) (fun _ hk => hk.2) (.string t302)) (fun _ hk => hk.2) (.int .i64 t303)) (fun _ hk => hk.2) (.slice Ao45 t304.length co45)) (fun _ hk => hk.2) (.int .i64 t307)) (fun _ hk => hk.2) (.int .i64 t308)) (fun _ h_ => h_.1))) hb); have n2_ := Aside0.mk (Kd.R_below (by (with_reducible repeat (first | apply Kd.R_alloc | apply Kd.R_drewN | apply Kd.R_drew)); exact (Kd.R_mono (Kd.R_far (p := ⟨gb309, 4, none⟩) (Kd.R_far (p := ⟨gb309, 3, none⟩) (Kd.R_far (p := ⟨gb309, 2, none⟩) (Kd.R_far (p := ⟨gb309, 1, none⟩) (Kd.R_far (p := ⟨gb309, 0, none⟩) (Kd.R_types HO300.out BK309.out (by decide)) (fun _ hk => hk.2) (.string t302)) (fun _ hk => hk.2) (.int .i64 t303)) (fun _ hk => hk.2) (.slice Ao45 t304.length co45)) (fun _ hk => hk.2) (.int .i64 t307)) (fun _ hk => hk.2) (.int .i64 t308)) (fun _ h_ => h_.1))) hb); have n3_ := Aside0.mk (Kd.R_below (by (with_reducible repeat (first | apply Kd.R_alloc | apply Kd.R_drewN | apply Kd.R_drew)); exact (Kd.R_mono (Kd.R_far (p := ⟨gb309, 4, none⟩) (Kd.R_far (p := ⟨gb309, 3, none⟩) (Kd.R_far (p := ⟨gb309, 2, none⟩) (Kd.R_far (p := ⟨gb309, 1, none⟩) (Kd.R_far (p := ⟨gb309, 0, none⟩) (Kd.R_types HO306.out BK309.out (by decide)) (fun _ hk => hk.2) (.string t302)) (fun _ hk => hk.2) (.int .i64 t303)) (fun _ hk => hk.2) (.slice Ao45 t304.length co45)) (fun _ hk => hk.2) (.int .i64 t307)) (fun _ hk => hk.2) (.int .i64 t308)) (fun _ h_ => h_.1))) hb); have n4_ := Aside0.mk (blk_below (g := gb281) (o := .cells #[.string a0_0, .int .i64 a0_1, .slice A0_2 l0_2.length c0_2] 35 (0, 0)) (by (with_reducible repeat (first | refine blk_drewN ?_ _ | refine blk_drew ?_ | refine blk_alloc ?_ _)); refine blk_far ?_ NB281_309.out _; (with_reducible repeat (first | refine blk_drewN ?_ _ | refine blk_drew ?_ | refine blk_alloc ?_ _)); refine blk_far ?_ NB281_309.out _; (with_reducible repeat (first | refine blk_drewN ?_ _ | refine blk_drew ?_ | refine blk_alloc ?_ _)); refine blk_far ?_ NB281_309.out _; (with_reducible repeat (first | refine blk_drewN ?_ _ | refine blk_drew ?_ | refine blk_alloc ?_ _)); refine blk_far ?_ NB281_309.out _; (with_reducible repeat (first | refine blk_drewN ?_ _ | refine blk_drew ?_ | refine blk_alloc ?_ _)); refine blk_far ?_ NB281_309.out _; (with_reducible repeat (first | refine blk_drewN ?_ _ | refine blk_drew ?_ | refine blk_alloc ?_ _)); exact BK281.out) hb); have n5_ := Aside0.mk (blk_below (g := gb295) (o := .cells #[.string t288, .int .i64 t289, .slice Ao31 t290.length co31, .int .i64 t293, .int .i64 t294] 51 (0, 0)) (by (with_reducible repeat (first | refine blk_drewN ?_ _ | refine blk_drew ?_ | refine blk_alloc ?_ _)); refine blk_far ?_ NB295_309.out _; (with_reducible repeat (first | refine blk_drewN ?_ _ | refine blk_drew ?_ | refine blk_alloc ?_ _)); refine blk_far ?_ NB295_309.out _; (with_reducible repeat (first | refine blk_drewN ?_ _ | refine blk_drew ?_ | refine blk_alloc ?_ _)); refine blk_far ?_ NB295_309.out _; (with_reducible repeat (first | refine blk_drewN ?_ _ | refine blk_drew ?_ | refine blk_alloc ?_ _)); refine blk_far ?_ NB295_309.out _; (with_reducible repeat (first | refine blk_drewN ?_ _ | refine blk_drew ?_ | refine blk_alloc ?_ _)); refine blk_far ?_ NB295_309.out _; (with_reducible repeat (first | refine blk_drewN ?_ _ | refine blk_drew ?_ | refine blk_alloc ?_ _)); exact BK295.out) hb); have n6_ := Aside0.mk (blk_below (g := gb301) (o := .cells #[.string t296, .int .i64 t297, .slice Ao38 t298.length co38] 40 (0, 0)) (by (with_reducible repeat (first | refine blk_drewN ?_ _ | refine blk_drew ?_ | refine blk_alloc ?_ _)); refine blk_far ?_ NB301_309.out _; (with_reducible repeat (first | refine blk_drewN ?_ _ | refine blk_drew ?_ | refine blk_alloc ?_ _)); refine blk_far ?_ NB301_309.out _; (with_reducible repeat (first | refine blk_drewN ?_ _ | refine blk_drew ?_ | refine blk_alloc ?_ _)); refine blk_far ?_ NB301_309.out _; (with_reducible repeat (first | refine blk_drewN ?_ _ | refine blk_drew ?_ | refine blk_alloc ?_ _)); refine blk_far ?_ NB301_309.out _; (with_reducible repeat (first | refine blk_drewN ?_ _ | refine blk_drew ?_ | refine blk_alloc ?_ _)); refine blk_far ?_ NB301_309.out _; (with_reducible repeat (first | refine blk_drewN ?_ _ | refine blk_drew ?_ | refine blk_alloc ?_ _)); exact BK301.out) hb); have n7_ := Aside0.mk (blk_below (g := gb309) (o := .cells #[.string t302, .int .i64 t303, .slice Ao45 t304.length co45, .int .i64 t307, .int .i64 t308] 51 (0, 0)) (by (with_reducible repeat (first | refine blk_drewN ?_ _ | refine blk_drew ?_ | refine blk_alloc ?_ _)); refine blk_put (cs := #[.string t302, .int .i64 t303, .slice Ao45 t304.length co45, .int .i64 t307, .int .i64 0]) ?_ 4 _ rfl; (with_reducible repeat (first | refine blk_drewN ?_ _ | refine blk_drew ?_ | refine blk_alloc ?_ _)); refine blk_put (cs := #[.string t302, .int .i64 t303, .slice Ao45 t304.length co45, .int .i64 0, .int .i64 0]) ?_ 3 _ rfl; (with_reducible repeat (first | refine blk_drewN ?_ _ | refine blk_drew ?_ | refine blk_alloc ?_ _)); refine blk_put (cs := #[.string t302, .int .i64 t303, .slice none 0 0, .int .i64 0, .int .i64 0]) ?_ 2 _ rfl; (with_reducible repeat (first | refine blk_drewN ?_ _ | refine blk_drew ?_ | refine blk_alloc ?_ _)); refine blk_put (cs := #[.string t302, .int .i64 0, .slice none 0 0, .int .i64 0, .int .i64 0]) ?_ 1 _ rfl; (with_reducible repeat (first | refine blk_drewN ?_ _ | refine blk_drew ?_ | refine blk_alloc ?_ _)); refine blk_put (cs := #[.string (⟨#[]⟩ : ByteArray), .int .i64 0, .slice none 0 0, .int .i64 0, .int .i64 0]) ?_ 0 _ rfl; (with_reducible repeat (first | refine blk_drewN ?_ _ | refine blk_drew ?_ | refine blk_alloc ?_ _)); exact BK309.out) hb); have n8_ := Aside0.mk (below_step zb18_10 hb); clear HO287; clear HO292; clear HO300; clear HO306; clear BK281; clear BK295; clear BK301; clear BK309; clear HB; have HO287 := n0_; have HO292 := n1_; have HO300 := n2_; have HO306 := n3_; have BK281 := n4_; have BK295 := n5_; have BK301 := n6_; have BK309 := n7_; have HB := n8_; clear n0_ n1_ n2_ n3_ n4_ n5_ n6_ n7_ n8_; (try clear hb); (try clear hb2); (try clear hk); (try clear hi)))
     have n0_ := Aside0.mk (Kd.R_drew HO287.out)
     have n1_ := Aside0.mk (Kd.R_drew HO292.out)
     have n2_ := Aside0.mk (Kd.R_drew HO300.out)
     have n3_ := Aside0.mk (Kd.R_drew HO306.out)
     have n4_ := Aside0.mk (blk_drew BK281.out)
     have n5_ := Aside0.mk (blk_drew BK295.out)
     have n6_ := Aside0.mk (blk_drew BK301.out)
     have n7_ := Aside0.mk (blk_drew BK309.out)
     have n8_ := Aside0.mk (below_drew1 HB.out)
     clear HO287
     clear HO292
     clear HO300
     clear HO306
     clear BK281
     clear BK295
     clear BK301
     clear BK309
     clear HB
     have HO287 := n0_
     have HO292 := n1_
     have HO300 := n2_
     have HO306 := n3_
     have BK281 := n4_
     have BK295 := n5_
     have BK301 := n6_
     have BK309 := n7_
     have HB := n8_
     clear n0_ n1_ n2_ n3_ n4_ n5_ n6_ n7_ n8_
     refine start_ (n := 5) (S := fun w' => w'.cell? ⟨gb301, 0, none⟩ = some (.string t296) ∧ w'.cell? ⟨gb301, 1, none⟩ = some (.int .i64 t297) ∧ w'.cell? ⟨gb301, 2, none⟩ = some (.slice Ao38 t298.length co38) ∧ w'.cell? ⟨gb281, 0, none⟩ = some (.string a0_0) ∧ w'.cell? ⟨gb281, 1, none⟩ = some (.int .i64 a0_1) ∧ w'.cell? ⟨gb281, 2, none⟩ = some (.slice A0_2 l0_2.length c0_2)) (ds := []) #[false, false, false, false, false] (by kernel_rfl) rfl rfl ⟨(blk_cell BK301.out 0).trans rfl, (blk_cell BK301.out 1).trans rfl, (blk_cell BK301.out 2).trans rfl, (blk_cell BK281.out 0).trans rfl, (blk_cell BK281.out 1).trans rfl, (blk_cell BK281.out 2).trans rfl⟩ (fun hHeld => ?_)
     generalize w47.drew = w48 at HO287 HO292 HO300 HO306 BK281 BK295 BK301 BK309 HB hHeld ⊢
     refine take_ (i := 0) (N := some 34) (v := ?_) (a' := ?_) #[true, false, false, false, false] rfl rfl (by kernel_rfl) (fun _ _ _ h => h) (Or.inl ⟨by rfl, ?_⟩) hHeld ?_ ?_
     rotate_left
     ·
      rintro w' ⟨s0, s1, s2, s3, s4, s5⟩
      go_simp
      with_reducible rfl
     rotate_left
     ·
      simp only [Act.put, List.setIfInBounds_toArray, List.set_cons_zero, List.set_cons_succ, i64_w, i32_w]
      rfl
     refine take_ (i := 1) (N := some 35) (v := ?_) (a' := ?_) #[true, true, false, false, false] rfl rfl (by kernel_rfl) (fun _ _ _ h => h) (Or.inl ⟨by rfl, ?_⟩) hHeld ?_ ?_
     rotate_left
     ·
      rintro w' ⟨s0, s1, s2, s3, s4, s5⟩
      go_simp
      with_reducible rfl
     rotate_left
     ·
      simp only [Act.put, List.setIfInBounds_toArray, List.set_cons_zero, List.set_cons_succ, i64_w, i32_w]
      rfl
     refine one_ (i := 2) (N := some 36) #[true, true, true, false, false] rfl rfl (by kernel_rfl) (by decide) (fun K hK => ?_)
     refine goes_ Tryd.func17 (by kernel_rfl) rfl #[.agg #[.string a0_0, .int .i64 a0_1, .slice A0_2 l0_2.length c0_2]] (by rfl) rfl rfl zb2_10 ?_
     with_reducible refine (laws_toDialback.calls k a0_0 a0_1 _ _ l0_2 t311 t312 t313 _ ?side1 ?side2 A16.out).mono ?_
     (case side1 => repeat (first | exact (Kd.C_below HR0_2.out HB.out) | (with_reducible refine Kd.C_alloc ?_ _) | (with_reducible refine Kd.C_drewN ?_ _) | (with_reducible refine Kd.C_drew ?_)))
     (case side2 => exact HC0_2.out)
     rintro e w49 ⟨v314, rfl, ho0, hb⟩
     refine ⟨_, rfl, ?_⟩
     have n0_ := Aside0.mk (Kd.R_elder' zb5_10 (Kd.R_base ho0) hb)
     have n1_ := Aside0.mk (Kd.R_elder' zb6_10 (Kd.R_base ho0) hb)
     have n2_ := Aside0.mk (Kd.R_elder' zb10_10 (Kd.R_base ho0) hb)
     have n3_ := Aside0.mk (Kd.R_elder' zb16_10 (Kd.R_base ho0) hb)
     have n4_ := Aside0.mk (Kd.R_lower (Kd.R_new' (Kd.R_new' (Kd.R_new' (Kd.R_new' ho0 (Kd.R_lt zb5_10)) (Kd.R_lt zb6_10)) (Kd.R_lt zb10_10)) (Kd.R_lt zb16_10)) (below_size zb18_10))
     have n5_ := Aside0.mk (blk_below (g := gb281) (o := .cells #[.string a0_0, .int .i64 a0_1, .slice A0_2 l0_2.length c0_2] 35 (0, 0)) zb3_10 hb)
     have n6_ := Aside0.mk (blk_below (g := gb295) (o := .cells #[.string t288, .int .i64 t289, .slice Ao31 t290.length co31, .int .i64 t293, .int .i64 t294] 51 (0, 0)) zb11_10 hb)
     have n7_ := Aside0.mk (blk_below (g := gb301) (o := .cells #[.string t296, .int .i64 t297, .slice Ao38 t298.length co38] 40 (0, 0)) zb17_10 hb)
     have n8_ := Aside0.mk (blk_below (g := gb309) (o := .cells #[.string t302, .int .i64 t303, .slice Ao45 t304.length co45, .int .i64 t307, .int .i64 t308] 51 (0, 0)) zb19_10 hb)
     have n9_ := Aside0.mk (below_step zb18_10 hb)
     clear HO287
     clear HO292
     clear HO300
     clear HO306
     clear BK281
     clear BK295
     clear BK301
     clear BK309
     clear HB
     have HO287 := n0_
     have HO292 := n1_
     have HO300 := n2_
     have HO306 := n3_
     have HO315 := n4_
     have BK281 := n5_
     have BK295 := n6_
     have BK301 := n7_
     have BK309 := n8_
     have HB := n9_
     clear n0_ n1_ n2_ n3_ n4_ n5_ n6_ n7_ n8_ n9_
     (try clear hb)
     (try clear hb2)
     (try clear hk)
     (try clear hi)
     (try clear ho0)
     obtain ⟨Ao50, co50, eo50⟩ := Kd.R_slice HO315.out
     (first | subst eo50 | (injection eo50 with f1_ f2_ f3_; have f4_ := f1_.symm; have f5_ := f3_.symm; clear f1_ f2_ f3_; subst f4_; subst f5_))
     refine hK.out _ _ ⟨(blk_cell BK301.out 0).trans rfl, (blk_cell BK301.out 1).trans rfl, (blk_cell BK301.out 2).trans rfl, (blk_cell BK281.out 0).trans rfl, (blk_cell BK281.out 1).trans rfl, (blk_cell BK281.out 2).trans rfl⟩ (fun hHeld => ?_)
     clear hK K
     refine norm_ (a' := ?_) ?_ ?_
     rotate_left
     ·
      show Act.put _ (some 36) _ = _
      simp only [Act.put, List.setIfInBounds_toArray, List.set_cons_zero, List.set_cons_succ, i64_w, i32_w]
      rfl
     refine one_ (i := 3) (N := some 37) #[true, true, true, true, false] rfl rfl (by kernel_rfl) (by decide) (fun K hK => ?_)
     refine goes_ Tryd.func19 (by kernel_rfl) rfl #[.agg #[.string t296, .int .i64 t297, .slice Ao38 t298.length co38], .agg #[.string t311, .int .i64 t312, .slice Ao50 t313.length co50]] (by rfl) rfl rfl zb2_10 ?_
     with_reducible refine (laws_eqDialback.calls k t296 t297 _ _ t298 t311 t312 _ _ t313 true _ ?side1 ?side2 ?side3 ?side4 A17.out).mono ?_
     (case side1 => repeat (first | exact (Kd.R_reads' HO300.out).2.2 | (with_reducible refine Kd.C_alloc ?_ _) | (with_reducible refine Kd.C_drewN ?_ _) | (with_reducible refine Kd.C_drew ?_)))
     (case side2 => exact (Kd.R_reads' HO300.out).2.1)
     (case side3 => repeat (first | exact (Kd.R_reads' HO315.out).2.2 | (with_reducible refine Kd.C_alloc ?_ _) | (with_reducible refine Kd.C_drewN ?_ _) | (with_reducible refine Kd.C_drew ?_)))
     (case side4 => exact (Kd.R_reads' HO315.out).2.1)
     rintro e w51 ⟨rfl, hb⟩
     refine ⟨_, rfl, ?_⟩
     have n0_ := Aside0.mk (Kd.R_below zb5_10 hb)
     have n1_ := Aside0.mk (Kd.R_below zb6_10 hb)
     have n2_ := Aside0.mk (Kd.R_below zb10_10 hb)
     have n3_ := Aside0.mk (Kd.R_below zb16_10 hb)
     have n4_ := Aside0.mk (Kd.R_below (by (with_reducible repeat (first | apply Kd.R_alloc | apply Kd.R_drewN | apply Kd.R_drew)); exact HO315.out) hb)
     have n5_ := Aside0.mk (blk_below (g := gb281) (o := .cells #[.string a0_0, .int .i64 a0_1, .slice A0_2 l0_2.length c0_2] 35 (0, 0)) zb3_10 hb)
     have n6_ := Aside0.mk (blk_below (g := gb295) (o := .cells #[.string t288, .int .i64 t289, .slice Ao31 t290.length co31, .int .i64 t293, .int .i64 t294] 51 (0, 0)) zb11_10 hb)
     have n7_ := Aside0.mk (blk_below (g := gb301) (o := .cells #[.string t296, .int .i64 t297, .slice Ao38 t298.length co38] 40 (0, 0)) zb17_10 hb)
     have n8_ := Aside0.mk (blk_below (g := gb309) (o := .cells #[.string t302, .int .i64 t303, .slice Ao45 t304.length co45, .int .i64 t307, .int .i64 t308] 51 (0, 0)) zb19_10 hb)
     have n9_ := Aside0.mk (below_step zb18_10 hb)
     clear HO287
     clear HO292
     clear HO300
     clear HO306
     clear HO315
     clear BK281
     clear BK295
     clear BK301
     clear BK309
     clear HB
     have HO287 := n0_
     have HO292 := n1_
     have HO300 := n2_
     have HO306 := n3_
     have HO315 := n4_
     have BK281 := n5_
     have BK295 := n6_
     have BK301 := n7_
     have BK309 := n8_
     have HB := n9_
     clear n0_ n1_ n2_ n3_ n4_ n5_ n6_ n7_ n8_ n9_
     (try clear hb)
     (try clear hb2)
     (try clear hk)
     (try clear hi)
     refine hK.out _ _ ⟨(blk_cell BK301.out 0).trans rfl, (blk_cell BK301.out 1).trans rfl, (blk_cell BK301.out 2).trans rfl, (blk_cell BK281.out 0).trans rfl, (blk_cell BK281.out 1).trans rfl, (blk_cell BK281.out 2).trans rfl⟩ (fun hHeld => ?_)
     clear hK K
     refine norm_ (a' := ?_) ?_ ?_
     rotate_left
     ·
      show Act.put _ (some 37) _ = _
      simp only [Act.put, List.setIfInBounds_toArray, List.set_cons_zero, List.set_cons_succ, i64_w, i32_w]
      rfl
     refine pure_ (i := 4) (N := some 38) (v := ?_) (a' := ?_) #[true, true, true, true, true] rfl rfl (by kernel_rfl) (fun _ _ _ h => h) (Or.inl ⟨by rfl, ?_⟩) ?_ ?_
     rotate_left
     ·
      intro w'
      go_simp
      with_reducible rfl
     rotate_left
     ·
      simp only [Act.put, List.setIfInBounds_toArray, List.set_cons_zero, List.set_cons_succ, i64_w, i32_w]
      rfl
     refine done_ (by kernel_rfl) ?_
     have hcz52_0 : w51.cell? ⟨gb301, 0, none⟩ = some (.string t296) := (blk_cell BK301.out 0).trans rfl
     have hcz52_1 : w51.cell? ⟨gb301, 1, none⟩ = some (.int .i64 t297) := (blk_cell BK301.out 1).trans rfl
     have hcz52_2 : w51.cell? ⟨gb301, 2, none⟩ = some (.slice Ao38 t298.length co38) := (blk_cell BK301.out 2).trans rfl
     have hfz52_0 := blk_frozen BK301.out 0
     have hfz52_1 := blk_frozen BK301.out 1
     have hfz52_2 := blk_frozen BK301.out 2
     go_upto_region 16 with (first | ((with_reducible refine gate_callee (f := 29) rfl ?_); refine goesL_ (some 41) rfl rfl Tryd.func29 (by kernel_rfl) rfl #[.agg #[.string t296, .int .i64 t297, .slice Ao38 t298.length co38], .int .i64 1] rfl zb2_10 ?_; (with_reducible refine (laws_markDialback.calls k t296 t297 (fun k_ => some k_ = (.slice Ao38 t298.length co38 : Value).ownBlock) (.slice Ao38 t298.length co38) t298 1 t317 t318 w _ ?side1 ?side2 A19.out).mono ?_); (case side1 => repeat (first | (with_reducible first | exact HB.out | apply below_alloc | apply pw_below_drewN | apply below_drew1 | refine below_set ?_ GE281.out | refine below_set ?_ GE295.out | refine below_set ?_ GE301.out | refine below_set ?_ GE309.out) | exact HB.out)); (case side2 => exact Kd.R_tight rfl HO300.out); rintro e w53 ⟨rfl, hy0, hb, hkp⟩; refine ⟨_, rfl, ?_⟩; have n0_ := Aside0.mk (blk_kept zb3_10 hkp (fun hs_ => (fun e_ => (Kd.R_ne HO300.out BK281.out (by decide)) e_) hs_)); have n1_ := Aside0.mk (Kd.R_mono (ok' := fun k_ => some k_ ≠ (.slice Ao31 t290.length co31 : Value).ownBlock ∧ some k_ ≠ (.slice Ao38 t298.length co38 : Value).ownBlock ∧ some k_ ≠ (.slice Ao45 t304.length co45 : Value).ownBlock ∧ some k_ ≠ (.slice Ao50 t313.length co50 : Value).ownBlock) (Kd.R_keptB (HO287.out) hkp (fun k_ hk_ hs_ => (hk_.1.1.2) hs_)) (fun k_ hk_ => ⟨hk_.1.1.1.1.2, hk_.1.1.1.2, hk_.1.1.2, hk_.1.2⟩)); have n2_ := Aside0.mk (Kd.R_mono (ok' := fun k_ => some k_ ≠ (.slice Ao26 t285.length co26 : Value).ownBlock ∧ some k_ ≠ (.slice Ao38 t298.length co38 : Value).ownBlock ∧ some k_ ≠ (.slice Ao45 t304.length co45 : Value).ownBlock ∧ some k_ ≠ (.slice Ao50 t313.length co50 : Value).ownBlock) (Kd.R_keptB (HO292.out) hkp (fun k_ hk_ hs_ => (hk_.1.1.2) hs_)) (fun k_ hk_ => ⟨hk_.1.1.1.1.2, hk_.1.1.1.2, hk_.1.1.2, hk_.1.2⟩)); have n3_ := Aside0.mk (blk_kept zb11_10 hkp (fun hs_ => (fun e_ => (Kd.R_ne HO300.out BK295.out (by decide)) e_) hs_)); have n4_ := Aside0.mk (Kd.R_reok rfl hy0 (fun k_ e_ => HO300.out.1 k_ e_)); have n5_ := Aside0.mk (blk_kept zb17_10 hkp (fun hs_ => (fun e_ => (Kd.R_ne HO300.out BK301.out (by decide)) e_) hs_)); have n6_ := Aside0.mk (Kd.R_mono (ok' := fun k_ => some k_ ≠ (.slice Ao26 t285.length co26 : Value).ownBlock ∧ some k_ ≠ (.slice Ao31 t290.length co31 : Value).ownBlock ∧ some k_ ≠ (.slice Ao38 t298.length co38 : Value).ownBlock ∧ some k_ ≠ (.slice Ao50 t313.length co50 : Value).ownBlock) (Kd.R_keptB (HO306.out) hkp (fun k_ hk_ hs_ => (hk_.1.2) hs_)) (fun k_ hk_ => ⟨hk_.1.1.1.1.2, hk_.1.1.1.2, hk_.1.1.2, hk_.1.2⟩)); have n7_ := Aside0.mk (blk_kept zb19_10 hkp (fun hs_ => (fun e_ => (Kd.R_ne HO300.out BK309.out (by decide)) e_) hs_)); have n8_ := Aside0.mk (Kd.R_mono (ok' := fun k_ => some k_ ≠ (.slice Ao26 t285.length co26 : Value).ownBlock ∧ some k_ ≠ (.slice Ao31 t290.length co31 : Value).ownBlock ∧ some k_ ≠ (.slice Ao38 t298.length co38 : Value).ownBlock ∧ some k_ ≠ (.slice Ao45 t304.length co45 : Value).ownBlock) (Kd.R_keptB (HO315.out) hkp (fun k_ hk_ hs_ => (hk_.1.2) hs_)) (fun k_ hk_ => ⟨hk_.1.1.1.1.2, hk_.1.1.1.2, hk_.1.1.2, hk_.1.2⟩)); have n9_ := Aside0.mk (hb); clear BK281; clear HO287; clear HO292; clear BK295; clear HO300; clear BK301; clear HO306; clear BK309; clear HO315; clear HB; have BK281 := n0_; have HO287 := n1_; have HO292 := n2_; have BK295 := n3_; have HO300 := n4_; have BK301 := n5_; have HO306 := n6_; have BK309 := n7_; have HO315 := n8_; have HB := n9_; clear n0_ n1_ n2_ n3_ n4_ n5_ n6_ n7_ n8_ n9_; (try clear hb); (try clear hkp); (try clear hy0)))
     (try simp only [Act.put, List.setIfInBounds_toArray, List.set_cons_zero, List.set_cons_succ])
     go_cut [49] (fun v49 wc => ∃ (kq : Nat) (x49_19 : Bool), v49 = .bool x49_19 ∧ Aside0 (laws_FnExactDbOpen.j0 kq a1 x49_19 a0_0 a0_1 l0_2 t288 t289 t290 t293 t294 t302 t303 t304 t307 t308 = some r) ∧ Aside0 (kq ≤ k) ∧ Aside0 (Kd.R k71 71 wc w.heap.size (fun k_ => some k_ ≠ ((.slice Ao38 t298.length co38) : Value).ownBlock ∧ some k_ ≠ ((.slice Ao45 t304.length co45) : Value).ownBlock) (.slice Ao31 t290.length co31) t290) ∧ Aside0 (Kd.R k71 71 wc w.heap.size (fun k_ => some k_ ≠ ((.slice Ao31 t290.length co31) : Value).ownBlock ∧ some k_ ≠ ((.slice Ao45 t304.length co45) : Value).ownBlock) (.slice Ao38 t298.length co38) t318) ∧ Aside0 (Kd.R k71 71 wc w.heap.size (fun k_ => some k_ ≠ ((.slice Ao31 t290.length co31) : Value).ownBlock ∧ some k_ ≠ ((.slice Ao38 t298.length co38) : Value).ownBlock) (.slice Ao45 t304.length co45) t304) ∧ Aside0 (wc.heap[gb281]? = some (.cells #[.string a0_0, .int .i64 a0_1, (.slice A0_2 l0_2.length c0_2)] 35 (0, 0))) ∧ Aside0 (wc.heap[gb295]? = some (.cells #[.string t288, .int .i64 t289, (.slice Ao31 t290.length co31), .int .i64 t293, .int .i64 t294] 51 (0, 0))) ∧ Aside0 (wc.heap[gb301]? = some (.cells #[.string t296, .int .i64 t297, (.slice Ao38 t298.length co38)] 40 (0, 0))) ∧ Aside0 (wc.heap[gb309]? = some (.cells #[.string t302, .int .i64 t303, (.slice Ao45 t304.length co45), .int .i64 t307, .int .i64 t308] 51 (0, 0))) ∧ Aside0 (Below w.heap.size w wc))
     case first =>
      have H := HC20.out
      clear HC20
      by_cases c54 : t317 < 0
      ·
       rw [if_pos c54] at H
       have c54b0 : decide (t317 < 0) = true := decide_eq_true c54
       clear c54
       (first | rw [c54b0] | (simp only [i64_w, i32_w]; rw [c54b0]) | skip)
       have H' := Aside0.mk H
       clear H
       go_wp2
       go_meet
       case rel => exact ⟨_, (true), (by first | rfl | (simp; done) | (simp [*]; done)), H', ⟨by first | omega | exact Nat.le_refl _⟩, ⟨by (with_reducible repeat (first | apply Kd.R_alloc | apply Kd.R_drewN | apply Kd.R_drew)); exact Kd.R_mono HO292.out (fun _ hk => ⟨hk.2.1, hk.2.2.1⟩)⟩, ⟨by (with_reducible repeat (first | apply Kd.R_alloc | apply Kd.R_drewN | apply Kd.R_drew)); exact Kd.R_mono HO300.out (fun _ hk => ⟨hk.1.1.2, hk.1.2⟩)⟩, ⟨by (with_reducible repeat (first | apply Kd.R_alloc | apply Kd.R_drewN | apply Kd.R_drew)); exact Kd.R_mono HO306.out (fun _ hk => ⟨hk.2.1, hk.2.2.1⟩)⟩, ⟨by (with_reducible repeat (first | refine blk_drewN ?_ _ | refine blk_drew ?_ | refine blk_alloc ?_ _)); exact BK281.out⟩, ⟨by (with_reducible repeat (first | refine blk_drewN ?_ _ | refine blk_drew ?_ | refine blk_alloc ?_ _)); exact BK295.out⟩, ⟨by (with_reducible repeat (first | refine blk_drewN ?_ _ | refine blk_drew ?_ | refine blk_alloc ?_ _)); exact BK301.out⟩, ⟨by (with_reducible repeat (first | refine blk_drewN ?_ _ | refine blk_drew ?_ | refine blk_alloc ?_ _)); exact BK309.out⟩, ⟨by repeat (first | (with_reducible first | exact HB.out | apply below_alloc | apply pw_below_drewN | apply below_drew1 | refine below_set ?_ GE281.out | refine below_set ?_ GE295.out | refine below_set ?_ GE301.out | refine below_set ?_ GE309.out) | exact HB.out)⟩⟩
      ·
       rw [if_neg c54] at H
       have c54b0 : decide (t317 < 0) = false := decide_eq_false c54
       clear c54
       (first | rw [c54b0] | (simp only [i64_w, i32_w]; rw [c54b0]) | skip)
       replace H := Option.bind_eq_some_iff.mp H
       obtain ⟨t319, A550, H⟩ := H
       replace H : (laws_FnExactDbOpen.j0 k a1 (!t319) a0_0 a0_1 l0_2 t288 t289 t290 t293 t294 t302 t303 t304 t307 t308) = some r := H
       have A55 := Aside0.mk A550
       clear A550
       have H' := Aside0.mk H
       clear H
       have hnb56 := NB309_281.out
       have hnc56 := NB281_309.out
       have hnb57 := NB309_295.out
       have hnc57 := NB295_309.out
       have hnb58 := NB309_301.out
       have hnc58 := NB301_309.out
       have hcz59_0 : w53.cell? ⟨gb309, 0, none⟩ = some (.string t302) := (blk_cell BK309.out 0).trans rfl
       have hcz59_1 : w53.cell? ⟨gb309, 1, none⟩ = some (.int .i64 t303) := (blk_cell BK309.out 1).trans rfl
       have hcz59_2 : w53.cell? ⟨gb309, 2, none⟩ = some (.slice Ao45 t304.length co45) := (blk_cell BK309.out 2).trans rfl
       have hcz59_3 : w53.cell? ⟨gb309, 3, none⟩ = some (.int .i64 t307) := (blk_cell BK309.out 3).trans rfl
       have hcz59_4 : w53.cell? ⟨gb309, 4, none⟩ = some (.int .i64 t308) := (blk_cell BK309.out 4).trans rfl
       have hfz59_0 := blk_frozen BK309.out 0
       have hfz59_1 := blk_frozen BK309.out 1
       have hfz59_2 := blk_frozen BK309.out 2
       have hfz59_3 := blk_frozen BK309.out 3
       have hfz59_4 := blk_frozen BK309.out 4
       have hnb60 := NB295_281.out
       have hnc60 := NB281_295.out
       have hnb61 := NB295_301.out
       have hnc61 := NB301_295.out
       have hcz62_0 : w53.cell? ⟨gb295, 0, none⟩ = some (.string t288) := (blk_cell BK295.out 0).trans rfl
       have hcz62_1 : w53.cell? ⟨gb295, 1, none⟩ = some (.int .i64 t289) := (blk_cell BK295.out 1).trans rfl
       have hcz62_2 : w53.cell? ⟨gb295, 2, none⟩ = some (.slice Ao31 t290.length co31) := (blk_cell BK295.out 2).trans rfl
       have hcz62_3 : w53.cell? ⟨gb295, 3, none⟩ = some (.int .i64 t293) := (blk_cell BK295.out 3).trans rfl
       have hcz62_4 : w53.cell? ⟨gb295, 4, none⟩ = some (.int .i64 t294) := (blk_cell BK295.out 4).trans rfl
       have hfz62_0 := blk_frozen BK295.out 0
       have hfz62_1 := blk_frozen BK295.out 1
       have hfz62_2 := blk_frozen BK295.out 2
       have hfz62_3 := blk_frozen BK295.out 3
       have hfz62_4 := blk_frozen BK295.out 4
       go_wp2_with (first | (go_at_call 28; (with_reducible refine (laws_eqDialbackOut.calls k t302 t303 _ _ t304 t307 t308 t288 t289 _ _ t290 t293 t294 t319 _ ?side1 ?side2 ?side3 ?side4 A55.out).mono ?_); (case side1 => repeat (first | exact (Kd.R_reads' HO306.out).2.2 | (with_reducible refine Kd.C_alloc ?_ _) | (with_reducible refine Kd.C_drewN ?_ _) | (with_reducible refine Kd.C_drew ?_))); (case side2 => exact (Kd.R_reads' HO306.out).2.1); (case side3 => repeat (first | exact (Kd.R_reads' HO292.out).2.2 | (with_reducible refine Kd.C_alloc ?_ _) | (with_reducible refine Kd.C_drewN ?_ _) | (with_reducible refine Kd.C_drew ?_))); (case side4 => exact (Kd.R_reads' HO292.out).2.1); rintro e w63 ⟨rfl, hb⟩; have n0_ := Aside0.mk (Kd.R_below zb5_10 hb); have n1_ := Aside0.mk (Kd.R_below zb6_10 hb); have n2_ := Aside0.mk (Kd.R_below zb10_10 hb); have n3_ := Aside0.mk (Kd.R_below zb16_10 hb); have n4_ := Aside0.mk (Kd.R_below (by (with_reducible repeat (first | apply Kd.R_alloc | apply Kd.R_drewN | apply Kd.R_drew)); exact HO315.out) hb); have n5_ := Aside0.mk (blk_below (g := gb281) (o := .cells #[.string a0_0, .int .i64 a0_1, .slice A0_2 l0_2.length c0_2] 35 (0, 0)) zb3_10 hb); have n6_ := Aside0.mk (blk_below (g := gb295) (o := .cells #[.string t288, .int .i64 t289, .slice Ao31 t290.length co31, .int .i64 t293, .int .i64 t294] 51 (0, 0)) zb11_10 hb); have n7_ := Aside0.mk (blk_below (g := gb301) (o := .cells #[.string t296, .int .i64 t297, .slice Ao38 t298.length co38] 40 (0, 0)) zb17_10 hb); have n8_ := Aside0.mk (blk_below (g := gb309) (o := .cells #[.string t302, .int .i64 t303, .slice Ao45 t304.length co45, .int .i64 t307, .int .i64 t308] 51 (0, 0)) zb19_10 hb); have n9_ := Aside0.mk (below_step zb18_10 hb); clear HO287; clear HO292; clear HO300; clear HO306; clear HO315; clear BK281; clear BK295; clear BK301; clear BK309; clear HB; have HO287 := n0_; have HO292 := n1_; have HO300 := n2_; have HO306 := n3_; have HO315 := n4_; have BK281 := n5_; have BK295 := n6_; have BK301 := n7_; have BK309 := n8_; have HB := n9_; clear n0_ n1_ n2_ n3_ n4_ n5_ n6_ n7_ n8_ n9_; (try clear hb); (try clear hb2); (try clear hk); (try clear hi)))
       go_meet
       case rel => exact ⟨_, (!t319), (by first | rfl | (simp; done) | (simp [*]; done)), H', ⟨by first | omega | exact Nat.le_refl _⟩, ⟨by (with_reducible repeat (first | apply Kd.R_alloc | apply Kd.R_drewN | apply Kd.R_drew)); exact Kd.R_mono HO292.out (fun _ hk => ⟨hk.2.1, hk.2.2.1⟩)⟩, ⟨by (with_reducible repeat (first | apply Kd.R_alloc | apply Kd.R_drewN | apply Kd.R_drew)); exact Kd.R_mono HO300.out (fun _ hk => ⟨hk.1.1.2, hk.1.2⟩)⟩, ⟨by (with_reducible repeat (first | apply Kd.R_alloc | apply Kd.R_drewN | apply Kd.R_drew)); exact Kd.R_mono HO306.out (fun _ hk => ⟨hk.2.1, hk.2.2.1⟩)⟩, ⟨by (with_reducible repeat (first | refine blk_drewN ?_ _ | refine blk_drew ?_ | refine blk_alloc ?_ _)); exact BK281.out⟩, ⟨by (with_reducible repeat (first | refine blk_drewN ?_ _ | refine blk_drew ?_ | refine blk_alloc ?_ _)); exact BK295.out⟩, ⟨by (with_reducible repeat (first | refine blk_drewN ?_ _ | refine blk_drew ?_ | refine blk_alloc ?_ _)); exact BK301.out⟩, ⟨by (with_reducible repeat (first | refine blk_drewN ?_ _ | refine blk_drew ?_ | refine blk_alloc ?_ _)); exact BK309.out⟩, ⟨by repeat (first | (with_reducible first | exact HB.out | apply below_alloc | apply pw_below_drewN | apply below_drew1 | refine below_set ?_ GE281.out | refine below_set ?_ GE295.out | refine below_set ?_ GE301.out | refine below_set ?_ GE309.out) | exact HB.out)⟩⟩
     case rest =>
      clear HC20
      try clear c1
      try clear c2
      try clear p2
      try clear c3
      try clear c3b0
      try clear c3b1
      try clear c4
      try clear c5
      try clear c6
      try clear c6b0
      try clear c7
      try clear c15
      try clear c17
      try clear c18
      try clear c19
      try clear c26
      try clear c27
      try clear c28
      try clear c29
      try clear c35
      try clear c36
      try clear c41
      try clear c42
      try clear c43
      try clear c54
      try clear c54b0
      try clear c56
      try clear c57
      try clear c58
      try clear c60
      try clear c61
      try clear hcz22_0
      try clear hcz22_1
      try clear hcz22_2
      try clear hcz24_0
      try clear hcz24_1
      try clear hcz24_2
      try clear hcz30_0
      try clear hcz30_1
      try clear hcz30_2
      try clear hcz30_3
      try clear hcz30_4
      try clear hcz32_0
      try clear hcz32_1
      try clear hcz32_2
      try clear hcz37_0
      try clear hcz37_1
      try clear hcz37_2
      try clear hcz44_0
      try clear hcz44_1
      try clear hcz44_2
      try clear hcz44_3
      try clear hcz44_4
      try clear hcz46_0
      try clear hcz46_1
      try clear hcz46_2
      try clear hcz46_3
      try clear hcz46_4
      try clear hcz52_0
      try clear hcz52_1
      try clear hcz52_2
      try clear hcz59_0
      try clear hcz59_1
      try clear hcz59_2
      try clear hcz59_3
      try clear hcz59_4
      try clear hcz62_0
      try clear hcz62_1
      try clear hcz62_2
      try clear hcz62_3
      try clear hcz62_4
      try clear hcz8_0
      try clear hcz8_1
      try clear hcz8_2
      try clear hfz22_0
      try clear hfz22_1
      try clear hfz22_2
      try clear hfz24_0
      try clear hfz24_1
      try clear hfz24_2
      try clear hfz30_0
      try clear hfz30_1
      try clear hfz30_2
      try clear hfz30_3
      try clear hfz30_4
      try clear hfz32_0
      try clear hfz32_1
      try clear hfz32_2
      try clear hfz37_0
      try clear hfz37_1
      try clear hfz37_2
      try clear hfz44_0
      try clear hfz44_1
      try clear hfz44_2
      try clear hfz44_3
      try clear hfz44_4
      try clear hfz46_0
      try clear hfz46_1
      try clear hfz46_2
      try clear hfz46_3
      try clear hfz46_4
      try clear hfz52_0
      try clear hfz52_1
      try clear hfz52_2
      try clear hfz59_0
      try clear hfz59_1
      try clear hfz59_2
      try clear hfz59_3
      try clear hfz59_4
      try clear hfz62_0
      try clear hfz62_1
      try clear hfz62_2
      try clear hfz62_3
      try clear hfz62_4
      try clear hfz8_0
      try clear hfz8_1
      try clear hfz8_2
      obtain ⟨kq, x49_19, rfl, HA, HJ19, HO_296002, HO_302002, HO_310002, BK281, BK295, BK301, BK309, HB⟩ := hcut
      have hl302002_19 := (Kd.R_reads' HO_302002.out).1
      rw [hl302002_19] at HO_302002
      (try simp only [hl302002_19])
      (try simp only [hl302002_19] at BK281)
      (try simp only [hl302002_19] at BK295)
      (try simp only [hl302002_19] at BK301)
      (try simp only [hl302002_19] at BK309)
      (try simp only [hl302002_19] at HO_296002)
      (try simp only [hl302002_19] at HO_310002)
      cases kq with
      | zero => exact absurd HA.out (by simp [laws_FnExactDbOpen.j0])
      | succ kj19 =>
       have H := HA.out
       clear HA
       simp only [laws_FnExactDbOpen.j0] at H
       by_cases c64 : x49_19 = true
       ·
        subst c64
        have H1 : (some false) = some r := by rw [if_pos rfl] at H; exact H
        clear H
        have H := H1
        clear H1
        exact absurd ((Option.some.inj H).trans hrt.out) (by decide)
       ·
        replace c64 := Bool.eq_false_iff.mpr c64
        subst c64
        have H1 : ((laws_markDialbackOut.f kj19 t302 t303 t304 t307 t308 1).bind fun bt320 => ((laws_heldDialbackOut.f kj19 t302 t303 bt320.2 t307 t308 1).bind fun t322 => (if t322 < 0 then (some false) else (if t322 = bt320.1 then ((laws_toDialback.f kj19 a0_0 a0_1 l0_2).bind fun bt323 => ((impl_DbOpen.f kj19 bt323.1 bt323.2.1 bt323.2.2 a1).bind fun bt328 => ((laws_eqDialbackOut.f kj19 bt328.1 bt328.2.1 bt328.2.2.1 bt328.2.2.2.1 bt328.2.2.2.2 t288 t289 t290 t293 t294).bind fun t336 => (if t336 = true then ((laws_heldDialbackOut.f kj19 t302 t303 bt320.2 t307 t308 1).bind fun t337 => (if t337 < 0 then (some false) else (if t337 = bt320.1 then (some true) else (some false)))) else (some false))))) else (some false))))) = some r := by rw [if_neg (show ¬ (false = true) by decide)] at H; exact H
        clear H
        have H := H1
        clear H1
        replace H := Option.bind_eq_some_iff.mp H
        obtain ⟨⟨t320, t321⟩, A650, H⟩ := H
        replace H : ((laws_heldDialbackOut.f kj19 t302 t303 t321 t307 t308 1).bind fun t322 => (if t322 < 0 then (some false) else (if t322 = t320 then ((laws_toDialback.f kj19 a0_0 a0_1 l0_2).bind fun bt323 => ((impl_DbOpen.f kj19 bt323.1 bt323.2.1 bt323.2.2 a1).bind fun bt328 => ((laws_eqDialbackOut.f kj19 bt328.1 bt328.2.1 bt328.2.2.1 bt328.2.2.2.1 bt328.2.2.2.2 t288 t289 t290 t293 t294).bind fun t336 => (if t336 = true then ((laws_heldDialbackOut.f kj19 t302 t303 t321 t307 t308 1).bind fun t337 => (if t337 < 0 then (some false) else (if t337 = t320 then (some true) else (some false)))) else (some false))))) else (some false)))) = some r := H
        have A65 := Aside0.mk A650
        clear A650
        replace H := Option.bind_eq_some_iff.mp H
        obtain ⟨t322, A660, H⟩ := H
        replace H : (if t322 < 0 then (some false) else (if t322 = t320 then ((laws_toDialback.f kj19 a0_0 a0_1 l0_2).bind fun bt323 => ((impl_DbOpen.f kj19 bt323.1 bt323.2.1 bt323.2.2 a1).bind fun bt328 => ((laws_eqDialbackOut.f kj19 bt328.1 bt328.2.1 bt328.2.2.1 bt328.2.2.2.1 bt328.2.2.2.2 t288 t289 t290 t293 t294).bind fun t336 => (if t336 = true then ((laws_heldDialbackOut.f kj19 t302 t303 t321 t307 t308 1).bind fun t337 => (if t337 < 0 then (some false) else (if t337 = t320 then (some true) else (some false)))) else (some false))))) else (some false))) = some r := H
        have A66 := Aside0.mk A660
        clear A660
        by_cases c67 : t322 < 0
        ·
         rw [if_pos c67] at H
         have c67b0 : decide (t322 < 0) = true := decide_eq_true c67
         clear c67
         exact absurd ((Option.some.inj H).trans hrt.out) (by decide)
        ·
         rw [if_neg c67] at H
         have c67b0 : decide (t322 < 0) = false := decide_eq_false c67
         clear c67
         by_cases c68 : t322 = t320
         ·
          rw [if_pos c68] at H
          have c68b0 : (t322 == t320) = true := beq_iff_eq.mpr c68
          have c68b1 : (t322 != t320) = false := bne_eq_false_iff_eq.mpr c68
          clear c68
          replace H := Option.bind_eq_some_iff.mp H
          obtain ⟨⟨t323, t324, t325⟩, A690, H⟩ := H
          replace H : ((impl_DbOpen.f kj19 t323 t324 t325 a1).bind fun bt328 => ((laws_eqDialbackOut.f kj19 bt328.1 bt328.2.1 bt328.2.2.1 bt328.2.2.2.1 bt328.2.2.2.2 t288 t289 t290 t293 t294).bind fun t336 => (if t336 = true then ((laws_heldDialbackOut.f kj19 t302 t303 t321 t307 t308 1).bind fun t337 => (if t337 < 0 then (some false) else (if t337 = t320 then (some true) else (some false)))) else (some false)))) = some r := H
          have A69 := Aside0.mk A690
          clear A690
          replace H := Option.bind_eq_some_iff.mp H
          obtain ⟨⟨t328, t329, t330, t333, t334⟩, A700, H⟩ := H
          replace H : ((laws_eqDialbackOut.f kj19 t328 t329 t330 t333 t334 t288 t289 t290 t293 t294).bind fun t336 => (if t336 = true then ((laws_heldDialbackOut.f kj19 t302 t303 t321 t307 t308 1).bind fun t337 => (if t337 < 0 then (some false) else (if t337 = t320 then (some true) else (some false)))) else (some false))) = some r := H
          have A70 := Aside0.mk A700
          clear A700
          replace H := Option.bind_eq_some_iff.mp H
          obtain ⟨t336, A710, H⟩ := H
          replace H : (if t336 = true then ((laws_heldDialbackOut.f kj19 t302 t303 t321 t307 t308 1).bind fun t337 => (if t337 < 0 then (some false) else (if t337 = t320 then (some true) else (some false)))) else (some false)) = some r := H
          have A71 := Aside0.mk A710
          clear A710
          by_cases c72 : t336 = true
          ·
           subst c72
           have H1 : ((laws_heldDialbackOut.f kj19 t302 t303 t321 t307 t308 1).bind fun t337 => (if t337 < 0 then (some false) else (if t337 = t320 then (some true) else (some false)))) = some r := by rw [if_pos rfl] at H; exact H
           clear H
           have H := H1
           clear H1
           replace H := Option.bind_eq_some_iff.mp H
           obtain ⟨t337, A730, H⟩ := H
           replace H : (if t337 < 0 then (some false) else (if t337 = t320 then (some true) else (some false))) = some r := H
           have A73 := Aside0.mk A730
           clear A730
           by_cases c74 : t337 < 0
           ·
            rw [if_pos c74] at H
            have c74b0 : decide (t337 < 0) = true := decide_eq_true c74
            clear c74
            exact absurd ((Option.some.inj H).trans hrt.out) (by decide)
           ·
            rw [if_neg c74] at H
            have c74b0 : decide (t337 < 0) = false := decide_eq_false c74
            clear c74
            by_cases c75 : t337 = t320
            ·
             rw [if_pos c75] at H
             have c75b0 : (t337 == t320) = true := beq_iff_eq.mpr c75
             have c75b1 : (t337 != t320) = false := bne_eq_false_iff_eq.mpr c75
             clear c75
             obtain rfl := Option.some.inj H
             have hnb76 := NB309_281.out
             have hnc76 := NB281_309.out
             have hnb77 := NB309_295.out
             have hnc77 := NB295_309.out
             have hnb78 := NB309_301.out
             have hnc78 := NB301_309.out
             have hcz79_0 : wc.cell? ⟨gb309, 0, none⟩ = some (.string t302) := (blk_cell BK309.out 0).trans rfl
             have hcz79_1 : wc.cell? ⟨gb309, 1, none⟩ = some (.int .i64 t303) := (blk_cell BK309.out 1).trans rfl
             have hcz79_2 : wc.cell? ⟨gb309, 2, none⟩ = some (.slice Ao45 t304.length co45) := (blk_cell BK309.out 2).trans rfl
             have hcz79_3 : wc.cell? ⟨gb309, 3, none⟩ = some (.int .i64 t307) := (blk_cell BK309.out 3).trans rfl
             have hcz79_4 : wc.cell? ⟨gb309, 4, none⟩ = some (.int .i64 t308) := (blk_cell BK309.out 4).trans rfl
             have hfz79_0 := blk_frozen BK309.out 0
             have hfz79_1 := blk_frozen BK309.out 1
             have hfz79_2 := blk_frozen BK309.out 2
             have hfz79_3 := blk_frozen BK309.out 3
             have hfz79_4 := blk_frozen BK309.out 4
             go_wp2_with (first | ((with_reducible refine gate_callee (f := 30) rfl ?_); refine goesL_ (some 52) rfl rfl Tryd.func30 (by kernel_rfl) rfl #[.agg #[.string t302, .int .i64 t303, .slice Ao45 t304.length co45, .int .i64 t307, .int .i64 t308], .int .i64 1] rfl zb2_10 ?_; (with_reducible refine (laws_markDialbackOut.calls kj19 t302 t303 (fun k_ => some k_ = (.slice Ao45 t304.length co45 : Value).ownBlock) (.slice Ao45 t304.length co45) t304 t307 t308 1 t320 t321 w _ ?side1 ?side2 A65.out).mono ?_); (case side1 => repeat (first | (with_reducible first | exact HB.out | apply below_alloc | apply pw_below_drewN | apply below_drew1 | refine below_set ?_ GE281.out | refine below_set ?_ GE295.out | refine below_set ?_ GE301.out | refine below_set ?_ GE309.out) | exact HB.out)); (case side2 => exact Kd.R_tight rfl HO_310002.out); rintro e w80 ⟨rfl, hy0, hb, hkp⟩; refine ⟨_, rfl, ?_⟩; have n0_ := Aside0.mk (Kd.R_mono (ok' := fun k_ => some k_ ≠ (.slice Ao38 t318.length co38 : Value).ownBlock ∧ some k_ ≠ (.slice Ao45 t304.length co45 : Value).ownBlock) (Kd.R_keptB (HO_296002.out) hkp (fun k_ hk_ hs_ => (hk_.2) hs_)) (fun k_ hk_ => ⟨hk_.1.1, hk_.1.2⟩)); have n1_ := Aside0.mk (Kd.R_mono (ok' := fun k_ => some k_ ≠ (.slice Ao31 t290.length co31 : Value).ownBlock ∧ some k_ ≠ (.slice Ao45 t304.length co45 : Value).ownBlock) (Kd.R_keptB (HO_302002.out) hkp (fun k_ hk_ hs_ => (hk_.2) hs_)) (fun k_ hk_ => ⟨hk_.1.1, hk_.1.2⟩)); have n2_ := Aside0.mk (Kd.R_reok rfl hy0 (fun k_ e_ => HO_310002.out.1 k_ e_)); have n3_ := Aside0.mk (blk_kept zb3_10 hkp (fun hs_ => (fun e_ => (Kd.R_ne HO_310002.out BK281.out (by decide)) e_) hs_)); have n4_ := Aside0.mk (blk_kept zb11_10 hkp (fun hs_ => (fun e_ => (Kd.R_ne HO_310002.out BK295.out (by decide)) e_) hs_)); have n5_ := Aside0.mk (blk_kept zb17_10 hkp (fun hs_ => (fun e_ => (Kd.R_ne HO_310002.out BK301.out (by decide)) e_) hs_)); have n6_ := Aside0.mk (blk_kept zb19_10 hkp (fun hs_ => (fun e_ => (Kd.R_ne HO_310002.out BK309.out (by decide)) e_) hs_)); have n7_ := Aside0.mk (hb); clear HO_296002; clear HO_302002; clear HO_310002; clear BK281; clear BK295; clear BK301; clear BK309; clear HB; have HO_296002 := n0_; have HO_302002 := n1_; have HO_310002 := n2_; have BK281 := n3_; have BK295 := n4_; have BK301 := n5_; have BK309 := n6_; have HB := n7_; clear n0_ n1_ n2_ n3_ n4_ n5_ n6_ n7_; (try clear hb); (try clear hkp); (try clear hy0); have hcz81_0 : w80.cell? ⟨gb309, 0, none⟩ = some (.string t302) := (blk_cell BK309.out 0).trans rfl; have hcz81_1 : w80.cell? ⟨gb309, 1, none⟩ = some (.int .i64 t303) := (blk_cell BK309.out 1).trans rfl; have hcz81_2 : w80.cell? ⟨gb309, 2, none⟩ = some (.slice Ao45 t304.length co45) := (blk_cell BK309.out 2).trans rfl; have hcz81_3 : w80.cell? ⟨gb309, 3, none⟩ = some (.int .i64 t307) := (blk_cell BK309.out 3).trans rfl; have hcz81_4 : w80.cell? ⟨gb309, 4, none⟩ = some (.int .i64 t308) := (blk_cell BK309.out 4).trans rfl; have hfz81_0 := blk_frozen BK309.out 0; have hfz81_1 := blk_frozen BK309.out 1; have hfz81_2 := blk_frozen BK309.out 2; have hfz81_3 := blk_frozen BK309.out 3; have hfz81_4 := blk_frozen BK309.out 4) | ((with_reducible refine gate_callee (f := 31) rfl ?_); refine goesL_ (some 55) rfl rfl Tryd.func31 (by kernel_rfl) rfl #[.agg #[.string t302, .int .i64 t303, .slice Ao45 t321.length co45, .int .i64 t307, .int .i64 t308], .int .i64 1] rfl (by (try simp only [List.map_toArray, List.map_cons, List.map_nil]); first | done | (rw [show t321.length = t304.length from (Kd.R_reads' HO_310002.out).1.symm] <;> rfl) | rfl | (simp only [List.length_drop, List.length_take]; rfl)) ?_; (with_reducible refine (laws_heldDialbackOut.calls kj19 t302 t303 _ _ t321 t307 t308 1 t322 _ ?side1 ?side2 A66.out).mono ?_); (case side1 => repeat (first | exact (Kd.R_reads' HO_310002.out).2.2 | (with_reducible refine Kd.C_alloc ?_ _) | (with_reducible refine Kd.C_drewN ?_ _) | (with_reducible refine Kd.C_drew ?_))); (case side2 => rw [show t321.length = t304.length from (Kd.R_reads' HO_310002.out).1.symm]; exact (Kd.R_reads' HO_310002.out).2.1); rintro e w82 ⟨rfl, hb⟩; refine ⟨_, rfl, ?_⟩; have n0_ := Aside0.mk (Kd.R_below zb20_10 hb); have n1_ := Aside0.mk (Kd.R_below zb21_10 hb); have n2_ := Aside0.mk (Kd.R_below zb22_10 hb); have n3_ := Aside0.mk (blk_below (g := gb281) (o := .cells #[.string a0_0, .int .i64 a0_1, .slice A0_2 l0_2.length c0_2] 35 (0, 0)) zb3_10 hb); have n4_ := Aside0.mk (blk_below (g := gb295) (o := .cells #[.string t288, .int .i64 t289, .slice Ao31 t290.length co31, .int .i64 t293, .int .i64 t294] 51 (0, 0)) zb11_10 hb); have n5_ := Aside0.mk (blk_below (g := gb301) (o := .cells #[.string t296, .int .i64 t297, .slice Ao38 t318.length co38] 40 (0, 0)) zb17_10 hb); have n6_ := Aside0.mk (blk_below (g := gb309) (o := .cells #[.string t302, .int .i64 t303, .slice Ao45 t304.length co45, .int .i64 t307, .int .i64 t308] 51 (0, 0)) zb19_10 hb); have n7_ := Aside0.mk (below_step zb18_10 hb); clear HO_296002; clear HO_302002; clear HO_310002; clear BK281; clear BK295; clear BK301; clear BK309; clear HB; have HO_296002 := n0_; have HO_302002 := n1_; have HO_310002 := n2_; have BK281 := n3_; have BK295 := n4_; have BK301 := n5_; have BK309 := n6_; have HB := n7_; clear n0_ n1_ n2_ n3_ n4_ n5_ n6_ n7_; (try clear hb); (try clear hb2); (try clear hk); (try clear hi); have hnb83 := NB281_295.out; have hnc83 := NB295_281.out; have hnb84 := NB281_301.out; have hnc84 := NB301_281.out; have hcz85_0 : w82.cell? ⟨gb281, 0, none⟩ = some (.string a0_0) := (blk_cell BK281.out 0).trans rfl; have hcz85_1 : w82.cell? ⟨gb281, 1, none⟩ = some (.int .i64 a0_1) := (blk_cell BK281.out 1).trans rfl; have hcz85_2 : w82.cell? ⟨gb281, 2, none⟩ = some (.slice A0_2 l0_2.length c0_2) := (blk_cell BK281.out 2).trans rfl; have hfz85_0 := blk_frozen BK281.out 0; have hfz85_1 := blk_frozen BK281.out 1; have hfz85_2 := blk_frozen BK281.out 2) | ((with_reducible refine gate_callee (f := 17) rfl ?_); refine goesL_ (some 62) rfl rfl Tryd.func17 (by kernel_rfl) rfl #[.agg #[.string a0_0, .int .i64 a0_1, .slice A0_2 l0_2.length c0_2]] rfl zb2_10 ?_; (with_reducible refine (laws_toDialback.calls kj19 a0_0 a0_1 _ _ l0_2 t323 t324 t325 _ ?side1 ?side2 A69.out).mono ?_); (case side1 => repeat (first | exact (Kd.C_below HR0_2.out HB.out) | (with_reducible refine Kd.C_alloc ?_ _) | (with_reducible refine Kd.C_drewN ?_ _) | (with_reducible refine Kd.C_drew ?_))); (case side2 => exact HC0_2.out); rintro e w86 ⟨v326, rfl, ho0, hb⟩; refine ⟨_, rfl, ?_⟩; have n0_ := Aside0.mk (Kd.R_elder' zb20_10 (Kd.R_base ho0) hb); have n1_ := Aside0.mk (Kd.R_elder' zb21_10 (Kd.R_base ho0) hb); have n2_ := Aside0.mk (Kd.R_elder' zb22_10 (Kd.R_base ho0) hb); have n3_ := Aside0.mk (Kd.R_lower (Kd.R_new' (Kd.R_new' (Kd.R_new' ho0 (Kd.R_lt zb20_10)) (Kd.R_lt zb21_10)) (Kd.R_lt zb22_10)) (below_size zb18_10)); have n4_ := Aside0.mk (blk_below (g := gb281) (o := .cells #[.string a0_0, .int .i64 a0_1, .slice A0_2 l0_2.length c0_2] 35 (0, 0)) zb3_10 hb); have n5_ := Aside0.mk (blk_below (g := gb295) (o := .cells #[.string t288, .int .i64 t289, .slice Ao31 t290.length co31, .int .i64 t293, .int .i64 t294] 51 (0, 0)) zb11_10 hb); have n6_ := Aside0.mk (blk_below (g := gb301) (o := .cells #[.string t296, .int .i64 t297, .slice Ao38 t318.length co38] 40 (0, 0)) zb17_10 hb); have n7_ := Aside0.mk (blk_below (g := gb309) (o := .cells #[.string t302, .int .i64 t303, .slice Ao45 t304.length co45, .int .i64 t307, .int .i64 t308] 51 (0, 0)) zb19_10 hb); have n8_ := Aside0.mk (below_step zb18_10 hb); clear HO_296002; clear HO_302002; clear HO_310002; clear BK281; clear BK295; clear BK301; clear BK309; clear HB; have HO_296002 := n0_; have HO_302002 := n1_; have HO_310002 := n2_; have HO327 := n3_; have BK281 := n4_; have BK295 := n5_; have BK301 := n6_; have BK309 := n7_; have HB := n8_; clear n0_ n1_ n2_ n3_ n4_ n5_ n6_ n7_ n8_; (try clear hb); (try clear hb2); (try clear hk); (try clear hi); (try clear ho0); obtain ⟨Ao87, co87, eo87⟩ := Kd.R_slice HO327.out; subst eo87) | ((with_reducible refine gate_callee (f := 27) rfl ?_); refine goesL_ (some 64) rfl rfl Tryd.func27 (by kernel_rfl) rfl #[.agg #[.string t323, .int .i64 t324, .slice Ao87 t325.length co87], .string a1] rfl zb2_10 ?_; (with_reducible refine (impl_DbOpen.calls kj19 t323 t324 _ _ t325 a1 t328 t329 t330 t333 t334 _ ?side1 ?side2 A70.out (by first | exact hmx | exact hmx.below HB.out | exact hmx.below (by repeat (first | (with_reducible first | exact HB.out | apply below_alloc | apply pw_below_drewN | apply below_drew1 | refine below_set ?_ GE281.out | refine below_set ?_ GE295.out | refine below_set ?_ GE301.out | refine below_set ?_ GE309.out | refine below_set ?_ GE335.out | exact Below.refl _ _) | exact HB.out | exact Below.refl _ _)))).mono ?_); (case side1 => repeat (first | exact (Kd.R_reads' HO327.out).2.2 | (with_reducible refine Kd.C_alloc ?_ _) | (with_reducible refine Kd.C_drewN ?_ _) | (with_reducible refine Kd.C_drew ?_))); (case side2 => exact (Kd.R_reads' HO327.out).2.1); rintro e w88 ⟨v331, rfl, ho0, hb⟩; refine ⟨_, rfl, ?_⟩; have n0_ := Aside0.mk (Kd.R_elder' zb20_10 (Kd.R_base ho0) hb); have n1_ := Aside0.mk (Kd.R_elder' zb21_10 (Kd.R_base ho0) hb); have n2_ := Aside0.mk (Kd.R_elder' zb22_10 (Kd.R_base ho0) hb); have n3_ := Aside0.mk (Kd.R_elder' zb23_10 (Kd.R_base ho0) hb); have n4_ := Aside0.mk (Kd.R_lower (Kd.R_new' (Kd.R_new' (Kd.R_new' (Kd.R_new' ho0 (Kd.R_lt zb20_10)) (Kd.R_lt zb21_10)) (Kd.R_lt zb22_10)) (Kd.R_lt zb23_10)) (below_size zb18_10)); have n5_ := Aside0.mk (blk_below (g := gb281) (o := .cells #[.string a0_0, .int .i64 a0_1, .slice A0_2 l0_2.length c0_2] 35 (0, 0)) zb3_10 hb); have n6_ := Aside0.mk (blk_below (g := gb295) (o := .cells #[.string t288, .int .i64 t289, .slice Ao31 t290.length co31, .int .i64 t293, .int .i64 t294] 51 (0, 0)) zb11_10 hb); have n7_ := Aside0.mk (blk_below (g := gb301) (o := .cells #[.string t296, .int .i64 t297, .slice Ao38 t318.length co38] 40 (0, 0)) zb17_10 hb); have n8_ := Aside0.mk (blk_below (g := gb309) (o := .cells #[.string t302, .int .i64 t303, .slice Ao45 t304.length co45, .int .i64 t307, .int .i64 t308] 51 (0, 0)) zb19_10 hb); have n9_ := Aside0.mk (below_step zb18_10 hb); clear HO_296002; clear HO_302002; clear HO_310002; clear HO327; clear BK281; clear BK295; clear BK301; clear BK309; clear HB; have HO_296002 := n0_; have HO_302002 := n1_; have HO_310002 := n2_; have HO327 := n3_; have HO332 := n4_; have BK281 := n5_; have BK295 := n6_; have BK301 := n7_; have BK309 := n8_; have HB := n9_; clear n0_ n1_ n2_ n3_ n4_ n5_ n6_ n7_ n8_ n9_; (try clear hb); (try clear hb2); (try clear hk); (try clear hi); (try clear ho0)) | ((with_reducible refine gate_dst (N := 12) rfl ?_); refine box_event ?hg (N := 12) ?hd (cs := #[.string (⟨#[]⟩ : ByteArray), .int .i64 0, .slice none 0 0, .int .i64 0, .int .i64 0]) (t := 51) ?hr ?_; (case hd => rfl); (case hg => rfl); (case hr => first | (go_simp; done) | (go_simp; rfl)); intro gb335 hg w89 hbox hb; have n0_ := Aside0.mk (Kd.R_below zb20_10 hb); have n1_ := Aside0.mk (Kd.R_below zb21_10 hb); have n2_ := Aside0.mk (Kd.R_below zb22_10 hb); have n3_ := Aside0.mk (Kd.R_below zb23_10 hb); have n4_ := Aside0.mk (Kd.R_below (by (with_reducible repeat (first | apply Kd.R_alloc | apply Kd.R_drewN | apply Kd.R_drew)); exact HO332.out) hb); have n5_ := Aside0.mk (blk_below (g := gb281) (o := .cells #[.string a0_0, .int .i64 a0_1, .slice A0_2 l0_2.length c0_2] 35 (0, 0)) zb3_10 hb); have n6_ := Aside0.mk (blk_below (g := gb295) (o := .cells #[.string t288, .int .i64 t289, .slice Ao31 t290.length co31, .int .i64 t293, .int .i64 t294] 51 (0, 0)) zb11_10 hb); have n7_ := Aside0.mk (blk_below (g := gb301) (o := .cells #[.string t296, .int .i64 t297, .slice Ao38 t318.length co38] 40 (0, 0)) zb17_10 hb); have n8_ := Aside0.mk (blk_below (g := gb309) (o := .cells #[.string t302, .int .i64 t303, .slice Ao45 t304.length co45, .int .i64 t307, .int .i64 t308] 51 (0, 0)) zb19_10 hb); have n9_ := Aside0.mk (below_step zb18_10 hb); have n10_ := Aside0.mk (hbox); have n11_ := Aside0.mk ((by rw [hg]; exact (below_size zb18_10) : w.heap.size ≤ gb335)); have n12_ := Aside0.mk ((by rw [hg]; exact (below_size zb18_10) : w.heap.size ≤ gb335)); have n13_ := Aside0.mk ((zb7_10 : gb281 ≠ gb335)); have n14_ := Aside0.mk ((zb8_10 : gb335 ≠ gb281)); have n15_ := Aside0.mk ((zb12_10 : gb295 ≠ gb335)); have n16_ := Aside0.mk ((zb13_10 : gb335 ≠ gb295)); have n17_ := Aside0.mk ((by rw [hg]; exact Nat.ne_of_lt (blk_lt (g := gb301) (o := .cells #[.string t296, .int .i64 t297, .slice Ao38 t318.length co38] 40 (0, 0)) zb17_10) : gb301 ≠ gb335)); have n18_ := Aside0.mk ((by rw [hg]; exact Nat.ne_of_gt (blk_lt (g := gb301) (o := .cells #[.string t296, .int .i64 t297, .slice Ao38 t318.length co38] 40 (0, 0)) zb17_10) : gb335 ≠ gb301)); have n19_ := Aside0.mk ((by rw [hg]; exact Nat.ne_of_lt (blk_lt (g := gb309) (o := .cells #[.string t302, .int .i64 t303, .slice Ao45 t304.length co45, .int .i64 t307, .int .i64 t308] 51 (0, 0)) zb19_10) : gb309 ≠ gb335)); have n20_ := Aside0.mk ((by rw [hg]; exact Nat.ne_of_gt (blk_lt (g := gb309) (o := .cells #[.string t302, .int .i64 t303, .slice Ao45 t304.length co45, .int .i64 t307, .int .i64 t308] 51 (0, 0)) zb19_10) : gb335 ≠ gb309)); clear HO_296002; clear HO_302002; clear HO_310002; clear HO327; clear HO332; clear BK281; clear BK295; clear BK301; clear BK309; clear HB; have HO_296002 := n0_; have HO_302002 := n1_; have HO_310002 := n2_; have HO327 := n3_; have HO332 := n4_; have BK281 := n5_; have BK295 := n6_; have BK301 := n7_; have BK309 := n8_; have HB := n9_; have BK335 := n10_; have GW335 := n11_; have GE335 := n12_; have NB281_335 := n13_; have NB335_281 := n14_; have NB295_335 := n15_; have NB335_295 := n16_; have NB301_335 := n17_; have NB335_301 := n18_; have NB309_335 := n19_; have NB335_309 := n20_; clear n0_ n1_ n2_ n3_ n4_ n5_ n6_ n7_ n8_ n9_ n10_ n11_ n12_ n13_ n14_ n15_ n16_ n17_ n18_ n19_ n20_; clear hb hbox hg; have hnb90 := NB335_281.out; have hnc90 := NB281_335.out; have hnb91 := NB335_295.out; have hnc91 := NB295_335.out; have hnb92 := NB335_301.out; have hnc92 := NB301_335.out; have hnb93 := NB335_309.out; have hnc93 := NB309_335.out; have hcz94_0 : w89.cell? ⟨gb335, 0, none⟩ = some (.string (⟨#[]⟩ : ByteArray)) := (blk_cell BK335.out 0).trans rfl; have hcz94_1 : w89.cell? ⟨gb335, 1, none⟩ = some (.int .i64 0) := (blk_cell BK335.out 1).trans rfl; have hcz94_2 : w89.cell? ⟨gb335, 2, none⟩ = some (.slice none 0 0) := (blk_cell BK335.out 2).trans rfl; have hcz94_3 : w89.cell? ⟨gb335, 3, none⟩ = some (.int .i64 0) := (blk_cell BK335.out 3).trans rfl; have hcz94_4 : w89.cell? ⟨gb335, 4, none⟩ = some (.int .i64 0) := (blk_cell BK335.out 4).trans rfl; have hfz94_0 := blk_frozen BK335.out 0; have hfz94_1 := blk_frozen BK335.out 1; have hfz94_2 := blk_frozen BK335.out 2; have hfz94_3 := blk_frozen BK335.out 3; have hfz94_4 := blk_frozen BK335.out 4; obtain ⟨Ao95, co95, eo95⟩ := Kd.R_slice HO332.out; subst eo95; have hnb96 := NB295_301.out; have hnc96 := NB301_295.out; have hcz97_0 : w89.cell? ⟨gb295, 0, none⟩ = some (.string t288) := (blk_cell BK295.out 0).trans rfl; have hcz97_1 : w89.cell? ⟨gb295, 1, none⟩ = some (.int .i64 t289) := (blk_cell BK295.out 1).trans rfl; have hcz97_2 : w89.cell? ⟨gb295, 2, none⟩ = some (.slice Ao31 t290.length co31) := (blk_cell BK295.out 2).trans rfl; have hcz97_3 : w89.cell? ⟨gb295, 3, none⟩ = some (.int .i64 t293) := (blk_cell BK295.out 3).trans rfl; have hcz97_4 : w89.cell? ⟨gb295, 4, none⟩ = some (.int .i64 t294) := (blk_cell BK295.out 4).trans rfl; have hfz97_0 := blk_frozen BK295.out 0; have hfz97_1 := blk_frozen BK295.out 1; have hfz97_2 := blk_frozen BK295.out 2; have hfz97_3 := blk_frozen BK295.out 3; have hfz97_4 := blk_frozen BK295.out 4) | ((with_reducible refine gate_callee (f := 28) rfl ?_); refine goesL_ (some 67) rfl rfl Tryd.func28 (by kernel_rfl) rfl #[.agg #[.string t328, .int .i64 t329, .slice Ao95 t330.length co95, .int .i64 t333, .int .i64 t334], .agg #[.string t288, .int .i64 t289, .slice Ao31 t290.length co31, .int .i64 t293, .int .i64 t294]] rfl zb2_10 ?_; (with_reducible refine (laws_eqDialbackOut.calls kj19 t328 t329 _ _ t330 t333 t334 t288 t289 _ _ t290 t293 t294 true _ ?side1 ?side2 ?side3 ?side4 A71.out).mono ?_); (case side1 => refine (Kd.R_reads' (e := 71) (base := w.heap.size) (ok := fun k_ => ((((True ∧ some k_ ≠ (.slice Ao31 t290.length co31 : Value).ownBlock) ∧ some k_ ≠ (.slice Ao38 t318.length co38 : Value).ownBlock) ∧ some k_ ≠ (.slice Ao45 t304.length co45 : Value).ownBlock) ∧ some k_ ≠ (.slice Ao87 t325.length co87 : Value).ownBlock)) (n := t330.length) (c := co95) ?_).2.2; exact (by (with_reducible repeat (first | apply Kd.R_alloc | apply Kd.R_drewN | apply Kd.R_drew)); exact (Kd.R_mono (Kd.R_far (p := ⟨gb335, 4, none⟩) (Kd.R_far (p := ⟨gb335, 3, none⟩) (Kd.R_far (p := ⟨gb335, 2, none⟩) (Kd.R_far (p := ⟨gb335, 1, none⟩) (Kd.R_far (p := ⟨gb335, 0, none⟩) (Kd.R_types HO332.out BK335.out (by decide)) (fun _ hk => hk.2) (.string t328)) (fun _ hk => hk.2) (.int .i64 t329)) (fun _ hk => hk.2) (.slice Ao95 t330.length co95)) (fun _ hk => hk.2) (.int .i64 t333)) (fun _ hk => hk.2) (.int .i64 t334)) (fun _ h_ => h_.1)))); (case side2 => exact (Kd.R_reads' HO332.out).2.1); (case side3 => refine (Kd.R_reads' (e := 71) (base := w.heap.size) (ok := fun k_ => (((some k_ ≠ (.slice Ao38 t318.length co38 : Value).ownBlock ∧ some k_ ≠ (.slice Ao45 t304.length co45 : Value).ownBlock) ∧ some k_ ≠ (.slice Ao87 t325.length co87 : Value).ownBlock) ∧ some k_ ≠ (.slice Ao95 t330.length co95 : Value).ownBlock)) (n := t290.length) (c := co31) ?_).2.2; exact (by (with_reducible repeat (first | apply Kd.R_alloc | apply Kd.R_drewN | apply Kd.R_drew)); exact (Kd.R_mono (Kd.R_far (p := ⟨gb335, 4, none⟩) (Kd.R_far (p := ⟨gb335, 3, none⟩) (Kd.R_far (p := ⟨gb335, 2, none⟩) (Kd.R_far (p := ⟨gb335, 1, none⟩) (Kd.R_far (p := ⟨gb335, 0, none⟩) (Kd.R_types HO_296002.out BK335.out (by decide)) (fun _ hk => hk.2) (.string t328)) (fun _ hk => hk.2) (.int .i64 t329)) (fun _ hk => hk.2) (.slice Ao95 t330.length co95)) (fun _ hk => hk.2) (.int .i64 t333)) (fun _ hk => hk.2) (.int .i64 t334)) (fun _ h_ => h_.1)))); (case side4 => exact (Kd.R_reads' HO_296002.out).2.1); rintro e w98 ⟨rfl, hb⟩; refine ⟨_, rfl, ?_⟩; have n0_ := Aside0.mk (Kd.R_below (by (with_reducible repeat (first | apply Kd.R_alloc | apply Kd.R_drewN | apply Kd.R_drew)); exact (Kd.R_mono (Kd.R_far (p := ⟨gb335, 4, none⟩) (Kd.R_far (p := ⟨gb335, 3, none⟩) (Kd.R_far (p := ⟨gb335, 2, none⟩) (Kd.R_far (p := ⟨gb335, 1, none⟩) (Kd.R_far (p := ⟨gb335, 0, none⟩) (Kd.R_types HO_296002.out BK335.out (by decide)) (fun _ hk => hk.2) (.string t328)) (fun _ hk => hk.2) (.int .i64 t329)) (fun _ hk => hk.2) (.slice Ao95 t330.length co95)) (fun _ hk => hk.2) (.int .i64 t333)) (fun _ hk => hk.2) (.int .i64 t334)) (fun _ h_ => h_.1))) hb); have n1_ := Aside0.mk (Kd.R_below (by (with_reducible repeat (first | apply Kd.R_alloc | apply Kd.R_drewN | apply Kd.R_drew)); exact (Kd.R_mono (Kd.R_far (p := ⟨gb335, 4, none⟩) (Kd.R_far (p := ⟨gb335, 3, none⟩) (Kd.R_far (p := ⟨gb335, 2, none⟩) (Kd.R_far (p := ⟨gb335, 1, none⟩) (Kd.R_far (p := ⟨gb335, 0, none⟩) (Kd.R_types HO_302002.out BK335.out (by decide)) (fun _ hk => hk.2) (.string t328)) (fun _ hk => hk.2) (.int .i64 t329)) (fun _ hk => hk.2) (.slice Ao95 t330.length co95)) (fun _ hk => hk.2) (.int .i64 t333)) (fun _ hk => hk.2) (.int .i64 t334)) (fun _ h_ => h_.1))) hb); have n2_ := Aside0.mk (Kd.R_below (by (with_reducible repeat (first | apply Kd.R_alloc | apply Kd.R_drewN | apply Kd.R_drew)); exact (Kd.R_mono (Kd.R_far (p := ⟨gb335, 4, none⟩) (Kd.R_far (p := ⟨gb335, 3, none⟩) (Kd.R_far (p := ⟨gb335, 2, none⟩) (Kd.R_far (p := ⟨gb335, 1, none⟩) (Kd.R_far (p := ⟨gb335, 0, none⟩) (Kd.R_types HO_310002.out BK335.out (by decide)) (fun _ hk => hk.2) (.string t328)) (fun _ hk => hk.2) (.int .i64 t329)) (fun _ hk => hk.2) (.slice Ao95 t330.length co95)) (fun _ hk => hk.2) (.int .i64 t333)) (fun _ hk => hk.2) (.int .i64 t334)) (fun _ h_ => h_.1))) hb); have n3_ := Aside0.mk (Kd.R_below (by (with_reducible repeat (first | apply Kd.R_alloc | apply Kd.R_drewN | apply Kd.R_drew)); exact (Kd.R_mono (Kd.R_far (p := ⟨gb335, 4, none⟩) (Kd.R_far (p := ⟨gb335, 3, none⟩) (Kd.R_far (p := ⟨gb335, 2, none⟩) (Kd.R_far (p := ⟨gb335, 1, none⟩) (Kd.R_far (p := ⟨gb335, 0, none⟩) (Kd.R_types HO327.out BK335.out (by decide)) (fun _ hk => hk.2) (.string t328)) (fun _ hk => hk.2) (.int .i64 t329)) (fun _ hk => hk.2) (.slice Ao95 t330.length co95)) (fun _ hk => hk.2) (.int .i64 t333)) (fun _ hk => hk.2) (.int .i64 t334)) (fun _ h_ => h_.1))) hb); have n4_ := Aside0.mk (Kd.R_below (by (with_reducible repeat (first | apply Kd.R_alloc | apply Kd.R_drewN | apply Kd.R_drew)); exact (Kd.R_mono (Kd.R_far (p := ⟨gb335, 4, none⟩) (Kd.R_far (p := ⟨gb335, 3, none⟩) (Kd.R_far (p := ⟨gb335, 2, none⟩) (Kd.R_far (p := ⟨gb335, 1, none⟩) (Kd.R_far (p := ⟨gb335, 0, none⟩) (Kd.R_types HO332.out BK335.out (by decide)) (fun _ hk => hk.2) (.string t328)) (fun _ hk => hk.2) (.int .i64 t329)) (fun _ hk => hk.2) (.slice Ao95 t330.length co95)) (fun _ hk => hk.2) (.int .i64 t333)) (fun _ hk => hk.2) (.int .i64 t334)) (fun _ h_ => h_.1))) hb); have n5_ := Aside0.mk (blk_below (g := gb281) (o := .cells #[.string a0_0, .int .i64 a0_1, .slice A0_2 l0_2.length c0_2] 35 (0, 0)) (by (with_reducible repeat (first | refine blk_drewN ?_ _ | refine blk_drew ?_ | refine blk_alloc ?_ _)); refine blk_far ?_ NB281_335.out _; (with_reducible repeat (first | refine blk_drewN ?_ _ | refine blk_drew ?_ | refine blk_alloc ?_ _)); refine blk_far ?_ NB281_335.out _; (with_reducible repeat (first | refine blk_drewN ?_ _ | refine blk_drew ?_ | refine blk_alloc ?_ _)); refine blk_far ?_ NB281_335.out _; (with_reducible repeat (first | refine blk_drewN ?_ _ | refine blk_drew ?_ | refine blk_alloc ?_ _)); refine blk_far ?_ NB281_335.out _; (with_reducible repeat (first | refine blk_drewN ?_ _ | refine blk_drew ?_ | refine blk_alloc ?_ _)); refine blk_far ?_ NB281_335.out _; (with_reducible repeat (first | refine blk_drewN ?_ _ | refine blk_drew ?_ | refine blk_alloc ?_ _)); exact BK281.out) hb); have n6_ := Aside0.mk (blk_below (g := gb295) (o := .cells #[.string t288, .int .i64 t289, .slice Ao31 t290.length co31, .int .i64 t293, .int .i64 t294] 51 (0, 0)) (by (with_reducible repeat (first | refine blk_drewN ?_ _ | refine blk_drew ?_ | refine blk_alloc ?_ _)); refine blk_far ?_ NB295_335.out _; (with_reducible repeat (first | refine blk_drewN ?_ _ | refine blk_drew ?_ | refine blk_alloc ?_ _)); refine blk_far ?_ NB295_335.out _; (with_reducible repeat (first | refine blk_drewN ?_ _ | refine blk_drew ?_ | refine blk_alloc ?_ _)); refine blk_far ?_ NB295_335.out _; (with_reducible repeat (first | refine blk_drewN ?_ _ | refine blk_drew ?_ | refine blk_alloc ?_ _)); refine blk_far ?_ NB295_335.out _; (with_reducible repeat (first | refine blk_drewN ?_ _ | refine blk_drew ?_ | refine blk_alloc ?_ _)); refine blk_far ?_ NB295_335.out _; (with_reducible repeat (first | refine blk_drewN ?_ _ | refine blk_drew ?_ | refine blk_alloc ?_ _)); exact BK295.out) hb); have n7_ := Aside0.mk (blk_below (g := gb301) (o := .cells #[.string t296, .int .i64 t297, .slice Ao38 t318.length co38] 40 (0, 0)) (by (with_reducible repeat (first | refine blk_drewN ?_ _ | refine blk_drew ?_ | refine blk_alloc ?_ _)); refine blk_far ?_ NB301_335.out _; (with_reducible repeat (first | refine blk_drewN ?_ _ | refine blk_drew ?_ | refine blk_alloc ?_ _)); refine blk_far ?_ NB301_335.out _; (with_reducible repeat (first | refine blk_drewN ?_ _ | refine blk_drew ?_ | refine blk_alloc ?_ _)); refine blk_far ?_ NB301_335.out _; (with_reducible repeat (first | refine blk_drewN ?_ _ | refine blk_drew ?_ | refine blk_alloc ?_ _)); refine blk_far ?_ NB301_335.out _; (with_reducible repeat (first | refine blk_drewN ?_ _ | refine blk_drew ?_ | refine blk_alloc ?_ _)); refine blk_far ?_ NB301_335.out _; (with_reducible repeat (first | refine blk_drewN ?_ _ | refine blk_drew ?_ | refine blk_alloc ?_ _)); exact BK301.out) hb); have n8_ := Aside0.mk (blk_below (g := gb309) (o := .cells #[.string t302, .int .i64 t303, .slice Ao45 t304.length co45, .int .i64 t307, .int .i64 t308] 51 (0, 0)) (by (with_reducible repeat (first | refine blk_drewN ?_ _ | refine blk_drew ?_ | refine blk_alloc ?_ _)); refine blk_far ?_ NB309_335.out _; (with_reducible repeat (first | refine blk_drewN ?_ _ | refine blk_drew ?_ | refine blk_alloc ?_ _)); refine blk_far ?_ NB309_335.out _; (with_reducible repeat (first | refine blk_drewN ?_ _ | refine blk_drew ?_ | refine blk_alloc ?_ _)); refine blk_far ?_ NB309_335.out _; (with_reducible repeat (first | refine blk_drewN ?_ _ | refine blk_drew ?_ | refine blk_alloc ?_ _)); refine blk_far ?_ NB309_335.out _; (with_reducible repeat (first | refine blk_drewN ?_ _ | refine blk_drew ?_ | refine blk_alloc ?_ _)); refine blk_far ?_ NB309_335.out _; (with_reducible repeat (first | refine blk_drewN ?_ _ | refine blk_drew ?_ | refine blk_alloc ?_ _)); exact BK309.out) hb); have n9_ := Aside0.mk (blk_below (g := gb335) (o := .cells #[.string t328, .int .i64 t329, .slice Ao95 t330.length co95, .int .i64 t333, .int .i64 t334] 51 (0, 0)) (by (with_reducible repeat (first | refine blk_drewN ?_ _ | refine blk_drew ?_ | refine blk_alloc ?_ _)); refine blk_put (cs := #[.string t328, .int .i64 t329, .slice Ao95 t330.length co95, .int .i64 t333, .int .i64 0]) ?_ 4 _ rfl; (with_reducible repeat (first | refine blk_drewN ?_ _ | refine blk_drew ?_ | refine blk_alloc ?_ _)); refine blk_put (cs := #[.string t328, .int .i64 t329, .slice Ao95 t330.length co95, .int .i64 0, .int .i64 0]) ?_ 3 _ rfl; (with_reducible repeat (first | refine blk_drewN ?_ _ | refine blk_drew ?_ | refine blk_alloc ?_ _)); refine blk_put (cs := #[.string t328, .int .i64 t329, .slice none 0 0, .int .i64 0, .int .i64 0]) ?_ 2 _ rfl; (with_reducible repeat (first | refine blk_drewN ?_ _ | refine blk_drew ?_ | refine blk_alloc ?_ _)); refine blk_put (cs := #[.string t328, .int .i64 0, .slice none 0 0, .int .i64 0, .int .i64 0]) ?_ 1 _ rfl; (with_reducible repeat (first | refine blk_drewN ?_ _ | refine blk_drew ?_ | refine blk_alloc ?_ _)); refine blk_put (cs := #[.string (⟨#[]⟩ : ByteArray), .int .i64 0, .slice none 0 0, .int .i64 0, .int .i64 0]) ?_ 0 _ rfl; (with_reducible repeat (first | refine blk_drewN ?_ _ | refine blk_drew ?_ | refine blk_alloc ?_ _)); exact BK335.out) hb); have n10_ := Aside0.mk (below_step (by repeat (first | (with_reducible first | exact HB.out | apply below_alloc | apply pw_below_drewN | apply below_drew1 | refine below_set ?_ GE281.out | refine below_set ?_ GE295.out | refine below_set ?_ GE301.out | refine below_set ?_ GE309.out | refine below_set ?_ GE335.out) | exact HB.out)) hb); clear HO_296002; clear HO_302002; clear HO_310002; clear HO327; clear HO332; clear BK281; clear BK295; clear BK301; clear BK309; clear BK335; clear HB; have HO_296002 := n0_; have HO_302002 := n1_; have HO_310002 := n2_; have HO327 := n3_; have HO332 := n4_; have BK281 := n5_; have BK295 := n6_; have BK301 := n7_; have BK309 := n8_; have BK335 := n9_; have HB := n10_; clear n0_ n1_ n2_ n3_ n4_ n5_ n6_ n7_ n8_ n9_ n10_; (try clear hb); (try clear hb2); (try clear hk); (try clear hi); have hcz99_0 : w98.cell? ⟨gb309, 0, none⟩ = some (.string t302) := (blk_cell BK309.out 0).trans rfl; have hcz99_1 : w98.cell? ⟨gb309, 1, none⟩ = some (.int .i64 t303) := (blk_cell BK309.out 1).trans rfl; have hcz99_2 : w98.cell? ⟨gb309, 2, none⟩ = some (.slice Ao45 t304.length co45) := (blk_cell BK309.out 2).trans rfl; have hcz99_3 : w98.cell? ⟨gb309, 3, none⟩ = some (.int .i64 t307) := (blk_cell BK309.out 3).trans rfl; have hcz99_4 : w98.cell? ⟨gb309, 4, none⟩ = some (.int .i64 t308) := (blk_cell BK309.out 4).trans rfl; have hfz99_0 := blk_frozen BK309.out 0; have hfz99_1 := blk_frozen BK309.out 1; have hfz99_2 := blk_frozen BK309.out 2; have hfz99_3 := blk_frozen BK309.out 3; have hfz99_4 := blk_frozen BK309.out 4) | ((with_reducible refine gate_callee (f := 31) rfl ?_); refine goesL_ (some 71) rfl rfl Tryd.func31 (by kernel_rfl) rfl #[.agg #[.string t302, .int .i64 t303, .slice Ao45 t321.length co45, .int .i64 t307, .int .i64 t308], .int .i64 1] rfl (by (try simp only [List.map_toArray, List.map_cons, List.map_nil]); first | done | (rw [show t321.length = t304.length from (Kd.R_reads' HO_310002.out).1.symm] <;> rfl) | rfl | (simp only [List.length_drop, List.length_take]; rfl)) ?_; (with_reducible refine (laws_heldDialbackOut.calls kj19 t302 t303 _ _ t321 t307 t308 1 t337 _ ?side1 ?side2 A73.out).mono ?_); (case side1 => repeat (first | exact (Kd.R_reads' HO_310002.out).2.2 | (with_reducible refine Kd.C_alloc ?_ _) | (with_reducible refine Kd.C_drewN ?_ _) | (with_reducible refine Kd.C_drew ?_))); (case side2 => rw [show t321.length = t304.length from (Kd.R_reads' HO_310002.out).1.symm]; exact (Kd.R_reads' HO_310002.out).2.1); rintro e w100 ⟨rfl, hb⟩; refine ⟨_, rfl, ?_⟩; have n0_ := Aside0.mk (Kd.R_below zb20_10 hb); have n1_ := Aside0.mk (Kd.R_below zb21_10 hb); have n2_ := Aside0.mk (Kd.R_below zb22_10 hb); have n3_ := Aside0.mk (Kd.R_below zb23_10 hb); have n4_ := Aside0.mk (Kd.R_below (by (with_reducible repeat (first | apply Kd.R_alloc | apply Kd.R_drewN | apply Kd.R_drew)); exact HO332.out) hb); have n5_ := Aside0.mk (blk_below (g := gb281) (o := .cells #[.string a0_0, .int .i64 a0_1, .slice A0_2 l0_2.length c0_2] 35 (0, 0)) zb3_10 hb); have n6_ := Aside0.mk (blk_below (g := gb295) (o := .cells #[.string t288, .int .i64 t289, .slice Ao31 t290.length co31, .int .i64 t293, .int .i64 t294] 51 (0, 0)) zb11_10 hb); have n7_ := Aside0.mk (blk_below (g := gb301) (o := .cells #[.string t296, .int .i64 t297, .slice Ao38 t318.length co38] 40 (0, 0)) zb17_10 hb); have n8_ := Aside0.mk (blk_below (g := gb309) (o := .cells #[.string t302, .int .i64 t303, .slice Ao45 t304.length co45, .int .i64 t307, .int .i64 t308] 51 (0, 0)) zb19_10 hb); have n9_ := Aside0.mk (blk_below (g := gb335) (o := .cells #[.string t328, .int .i64 t329, .slice Ao95 t330.length co95, .int .i64 t333, .int .i64 t334] 51 (0, 0)) (by (with_reducible repeat (first | refine blk_drewN ?_ _ | refine blk_drew ?_ | refine blk_alloc ?_ _)); exact BK335.out) hb); have n10_ := Aside0.mk (below_step (by repeat (first | (with_reducible first | exact HB.out | apply below_alloc | apply pw_below_drewN | apply below_drew1 | refine below_set ?_ GE281.out | refine below_set ?_ GE295.out | refine below_set ?_ GE301.out | refine below_set ?_ GE309.out | refine below_set ?_ GE335.out) | exact HB.out)) hb); clear HO_296002; clear HO_302002; clear HO_310002; clear HO327; clear HO332; clear BK281; clear BK295; clear BK301; clear BK309; clear BK335; clear HB; have HO_296002 := n0_; have HO_302002 := n1_; have HO_310002 := n2_; have HO327 := n3_; have HO332 := n4_; have BK281 := n5_; have BK295 := n6_; have BK301 := n7_; have BK309 := n8_; have BK335 := n9_; have HB := n10_; clear n0_ n1_ n2_ n3_ n4_ n5_ n6_ n7_ n8_ n9_ n10_; (try clear hb); (try clear hb2); (try clear hk); (try clear hi)))
             go_ret
             exact ⟨by first | rfl | (simp [errW_none, errW_some] <;> rfl) | (simp [*, errW_none, errW_some] <;> rfl), by repeat (first | (with_reducible first | exact HB.out | apply below_alloc | apply pw_below_drewN | apply below_drew1 | refine below_set ?_ GE281.out | refine below_set ?_ GE295.out | refine below_set ?_ GE301.out | refine below_set ?_ GE309.out | refine below_set ?_ GE335.out) | exact HB.out)⟩
            ·
             rw [if_neg c75] at H
             have c75b0 : (t337 == t320) = false := beq_eq_false_iff_ne.mpr c75
             have c75b1 : (t337 != t320) = true := bne_iff_ne.mpr c75
             exact absurd ((Option.some.inj H).trans hrt.out) (by decide)
          ·
           replace c72 := Bool.eq_false_iff.mpr c72
           subst c72
           have H1 : (some false) = some r := by rw [if_neg (show ¬ (false = true) by decide)] at H; exact H
           clear H
           have H := H1
           clear H1
           exact absurd ((Option.some.inj H).trans hrt.out) (by decide)
         ·
          rw [if_neg c68] at H
          have c68b0 : (t322 == t320) = false := beq_eq_false_iff_ne.mpr c68
          have c68b1 : (t322 != t320) = true := bne_iff_ne.mpr c68
          exact absurd ((Option.some.inj H).trans hrt.out) (by decide)
    ·
     replace c18 := Bool.eq_false_iff.mpr c18
     subst c18
     have H1 : (some false) = some r := by rw [if_neg (show ¬ (false = true) by decide)] at H; exact H
     clear H
     have H := H1
     clear H1
     exact absurd ((Option.some.inj H).trans hrt.out) (by decide)
   ·
    replace c15 := Bool.eq_false_iff.mpr c15
    subst c15
    have H1 : (some false) = some r := by rw [if_neg (show ¬ (false = true) by decide)] at H; exact H
    clear H
    have H := H1
    clear H1
    exact absurd ((Option.some.inj H).trans hrt.out) (by decide)

end Go.Proofs.YtjchggdekbnmnaaDoor.QFnExactDbOpen
