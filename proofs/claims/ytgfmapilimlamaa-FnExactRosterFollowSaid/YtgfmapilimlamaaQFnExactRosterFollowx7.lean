-- laid by this session's own runner (wip/print2.py): not a printed file
import Derived.Test.YtgfmapilimlamaaQFnExactRosterFollowx0
import Derived.Test.YtgfmapilimlamaaQFnExactRosterFollowx1
import Derived.Test.YtgfmapilimlamaaQFnExactRosterFollowx2
import Derived.Test.YtgfmapilimlamaaQFnExactRosterFollowx3
import Derived.Test.YtgfmapilimlamaaQFnExactRosterFollowx4
import Derived.Test.YtgfmapilimlamaaQFnExactRosterFollowx5
import Derived.Test.YtgfmapilimlamaaQFnExactRosterFollowx6
namespace Go.Proofs.Ytgfmapilimlamaa.QFnExactRosterFollow
open Go.RowKit Go.Proofs.YtgfmapilimlamaaW.PrintWords Go.Proofs.YtgfmapilimlamaaW.PrintLast Go.Proofs.YtgfmapilimlamaaW.PrintMore
attribute [local go_sem] max2_int min2_int max_two min_two max_three min_three max_four min_four   -- for this text's walks alone
set_option linter.unusedVariables false
set_option linter.unusedSimpArgs false

theorem zb0_7 {P : Prop} (h : P := by (try simp only [List.map_toArray, List.map_cons, List.map_nil]); first | done | rfl | (simp only [List.length_drop, List.length_take]; rfl)) : P := h
theorem zb1_7 {P : Prop} (h : P := by repeat (first | (with_reducible first | exact HB.out | apply below_alloc | apply pw_below_drewN | apply below_drew1) | exact HB.out)) : P := h
theorem zb2_7 {P : Prop} (h : P := by (with_reducible repeat (first | apply Kd.R_alloc | apply Kd.R_drewN | apply Kd.R_drew)); exact HO260.out) : P := h
theorem zb3_7 {P : Prop} (h : P := by (with_reducible repeat (first | apply Kd.R_alloc | apply Kd.R_drewN | apply Kd.R_drew)); exact HO263.out) : P := h
theorem zb4_7 {P : Prop} (h : P := by (with_reducible repeat (first | apply Kd.R_alloc | apply Kd.R_drewN | apply Kd.R_drew)); exact HO266.out) : P := h
theorem zb5_7 {P : Prop} (h : P := by (with_reducible repeat (first | apply Kd.R_alloc | apply Kd.R_drewN | apply Kd.R_drew)); exact HO269.out) : P := h
theorem zb6_7 {P : Prop} (h : P := by (with_reducible repeat (first | apply Kd.R_alloc | apply Kd.R_drewN | apply Kd.R_drew)); exact HO272.out) : P := h
theorem zb7_7 {P : Prop} (h : P := by (with_reducible repeat (first | apply Kd.R_alloc | apply Kd.R_drewN | apply Kd.R_drew)); exact HO275.out) : P := h
theorem zb8_7 {P : Prop} (h : P := by (with_reducible repeat (first | apply Kd.R_alloc | apply Kd.R_drewN | apply Kd.R_drew)); exact HO279.out) : P := h
theorem zb9_7 {P : Prop} (h : P := by (with_reducible repeat (first | apply Kd.R_alloc | apply Kd.R_drewN | apply Kd.R_drew)); exact HO_6.out) : P := h
theorem zb10_7 {P : Prop} (h : P := by (with_reducible repeat (first | apply Kd.R_alloc | apply Kd.R_drewN | apply Kd.R_drew)); exact HO_9.out) : P := h
theorem zb11_7 {P : Prop} (h : P := by (with_reducible repeat (first | apply Kd.R_alloc | apply Kd.R_drewN | apply Kd.R_drew)); exact HO295.out) : P := h
theorem zb12_7 {P : Prop} (h : P := by (with_reducible repeat (first | apply Kd.R_alloc | apply Kd.R_drewN | apply Kd.R_drew)); exact HO298.out) : P := h
/-! ### laws_FnExactRosterFollow: function 3 -/
def laws_FnExactRosterFollow.j0 : Nat → List (S32) → List (S32) → List (S33) → List (S33) → Bool → Option (Bool)
 | 0, _, _, _, _, _ => none
 | k + 1, x0, x1, x6, x9, x63 => if x63 = true then (some false) else ((laws_markItemS.f k x9 1).bind fun bt290 => ((laws_heldItemS.f k bt290.2 1).bind fun t292 => (if t292 < 0 then (some false) else (if t292 = bt290.1 then ((laws_toItemS.f k x0).bind fun t293 => ((laws_toItemS.f k x1).bind fun t296 => ((impl_RosterFollow.f k t293 t296).bind fun t299 => ((laws_eqItemS.f k t299 x6).bind fun t302 => (if t302 = true then ((laws_heldItemS.f k bt290.2 1).bind fun t303 => (if t303 < 0 then (some false) else (if t303 = bt290.1 then (some true) else (some false)))) else (some false)))))) else (some false)))))
def laws_FnExactRosterFollow.f (k : Nat) (l0 : List (S32)) (l1 : List (S32)) : Option (Bool) := (laws_szItemS.f k l0 1048576).bind fun t256 => (if t256 < 0 then (some true) else ((laws_szItemS.f k l1 t256).bind fun t257 => (if t257 < 0 then (some true) else ((laws_toItemS.f k l0).bind fun t258 => ((laws_toItemS.f k l1).bind fun t261 => ((spec_RosterFollow.f k t258 t261).bind fun t264 => ((laws_toItemS.f k l0).bind fun t267 => ((laws_toItemS.f k l1).bind fun t270 => ((impl_RosterFollow.f k t267 t270).bind fun t273 => ((laws_eqItemS.f k t273 t264).bind fun t276 => (if t276 = true then ((laws_toItemS.f k l0).bind fun t277 => ((laws_eqItemS.f k t267 t277).bind fun t280 => (if t280 = true then ((laws_toItemS.f k l1).bind fun t281 => ((laws_eqItemS.f k t270 t281).bind fun t284 => (if t284 = true then ((laws_markItemS.f k t267 1).bind fun bt285 => ((laws_markItemS.f k t270 bt285.1).bind fun bt287 => (if bt287.1 < 0 then (laws_FnExactRosterFollow.j0 k l0 l1 t264 t273 true) else ((laws_eqItemS.f k t273 t264).bind fun t289 => (laws_FnExactRosterFollow.j0 k l0 l1 t264 t273 (!t289)))))) else (some false)))) else (some false)))) else (some false))))))))))))
theorem laws_FnExactRosterFollow.mono_l : ∀ k, (∀ y0 y1 y2 y3 y4, LeO (laws_FnExactRosterFollow.j0 k y0 y1 y2 y3 y4) (laws_FnExactRosterFollow.j0 (k + 1) y0 y1 y2 y3 y4))
 | 0 => fun _ _ _ _ _ r h => by simp [laws_FnExactRosterFollow.j0] at h
 | k + 1 => by
  have ih0 := laws_FnExactRosterFollow.mono_l k
  ·
   intro y0 y1 y2 y3 y4
   unfold laws_FnExactRosterFollow.j0
   repeat' first
   | (with_reducible exact ih0 _ _ _ _ _)
   | (with_reducible exact impl_RosterFollow.mono _ _ _)
   | (with_reducible exact laws_eqItemS.mono _ _ _)
   | (with_reducible exact laws_heldItemS.mono _ _ _)
   | (with_reducible exact laws_markItemS.mono _ _ _)
   | (with_reducible exact laws_szItemS.mono _ _ _)
   | (with_reducible exact laws_toItemS.mono _ _)
   | (with_reducible exact spec_RosterFollow.mono _ _ _)
   | (with_reducible exact LeO.refl _)
   | (with_reducible exact LeO.none _)
   | (with_reducible refine LeO.ite ?_ ?_)
   | (with_reducible refine LeO.bind ?_ (fun _ => ?_))
   | exact ih0 _ _ _ _ _
   | exact impl_RosterFollow.mono _ _ _
   | exact laws_eqItemS.mono _ _ _
   | exact laws_heldItemS.mono _ _ _
   | exact laws_markItemS.mono _ _ _
   | exact laws_szItemS.mono _ _ _
   | exact laws_toItemS.mono _ _
   | exact spec_RosterFollow.mono _ _ _
   | exact LeO.none _
   | refine LeO.ite ?_ ?_
   | refine LeO.bind ?_ (fun _ => ?_)
theorem laws_FnExactRosterFollow.mono : ∀ a0 a1 k, LeO (laws_FnExactRosterFollow.f k a0 a1) (laws_FnExactRosterFollow.f (k + 1) a0 a1) := by
 intro a0 a1 k
 have ih0 := laws_FnExactRosterFollow.mono_l k
 unfold laws_FnExactRosterFollow.f
 repeat' first
   | (with_reducible exact ih0 _ _ _ _ _)
   | (with_reducible exact impl_RosterFollow.mono _ _ _)
   | (with_reducible exact laws_eqItemS.mono _ _ _)
   | (with_reducible exact laws_heldItemS.mono _ _ _)
   | (with_reducible exact laws_markItemS.mono _ _ _)
   | (with_reducible exact laws_szItemS.mono _ _ _)
   | (with_reducible exact laws_toItemS.mono _ _)
   | (with_reducible exact spec_RosterFollow.mono _ _ _)
   | (with_reducible exact LeO.refl _)
   | (with_reducible exact LeO.none _)
   | (with_reducible refine LeO.ite ?_ ?_)
   | (with_reducible refine LeO.bind ?_ (fun _ => ?_))
   | exact ih0 _ _ _ _ _
   | exact impl_RosterFollow.mono _ _ _
   | exact laws_eqItemS.mono _ _ _
   | exact laws_heldItemS.mono _ _ _
   | exact laws_markItemS.mono _ _ _
   | exact laws_szItemS.mono _ _ _
   | exact laws_toItemS.mono _ _
   | exact spec_RosterFollow.mono _ _ _
   | exact LeO.none _
   | refine LeO.ite ?_ ?_
   | refine LeO.bind ?_ (fun _ => ?_)
set_option maxHeartbeats 8000000 in
set_option maxRecDepth 100000 in
theorem laws_FnExactRosterFollow.calls (k : Nat) (A0 : Option Addr) (c0 : Nat) (l0 : List (S32)) (A1 : Option Addr) (c1 : Nat) (l1 : List (S32)) (r : Bool) (w : World) (hr0 : Kd.C k32 w A0 l0.length l0) (hc0 : l0.length ≤ c0) (hr1 : Kd.C k32 w A1 l1.length l1) (hc1 : l1.length ≤ c1) (h : laws_FnExactRosterFollow.f k l0 l1 = some r) (hrt0 : r = true) :
  Calls Try.prog 3 #[.slice A0 l0.length c0, .slice A1 l1.length c1] w fun e w' => e = .returned (.bool r) ∧ Below w.heap.size w w' := by
 have hrt := Aside0.mk hrt0
 clear hrt0
 have HR0 := Aside0.mk hr0
 have HC0 := Aside0.mk hc0
 clear hr0 hc0
 have HR1 := Aside0.mk hr1
 have HC1 := Aside0.mk hc1
 clear hr1 hc1
 have HB := Aside0.mk (Below.refl w.heap.size w)
 have H : ((laws_szItemS.f k l0 1048576).bind fun t256 => (if t256 < 0 then (some true) else ((laws_szItemS.f k l1 t256).bind fun t257 => (if t257 < 0 then (some true) else ((laws_toItemS.f k l0).bind fun t258 => ((laws_toItemS.f k l1).bind fun t261 => ((spec_RosterFollow.f k t258 t261).bind fun t264 => ((laws_toItemS.f k l0).bind fun t267 => ((laws_toItemS.f k l1).bind fun t270 => ((impl_RosterFollow.f k t267 t270).bind fun t273 => ((laws_eqItemS.f k t273 t264).bind fun t276 => (if t276 = true then ((laws_toItemS.f k l0).bind fun t277 => ((laws_eqItemS.f k t267 t277).bind fun t280 => (if t280 = true then ((laws_toItemS.f k l1).bind fun t281 => ((laws_eqItemS.f k t270 t281).bind fun t284 => (if t284 = true then ((laws_markItemS.f k t267 1).bind fun bt285 => ((laws_markItemS.f k t270 bt285.1).bind fun bt287 => (if bt287.1 < 0 then (laws_FnExactRosterFollow.j0 k l0 l1 t264 t273 true) else ((laws_eqItemS.f k t273 t264).bind fun t289 => (laws_FnExactRosterFollow.j0 k l0 l1 t264 t273 (!t289)))))) else (some false)))) else (some false)))) else (some false))))))))))))) = some r := h
 clear h
 replace H := Option.bind_eq_some_iff.mp H
 obtain ⟨t256, A30, H⟩ := H
 replace H : (if t256 < 0 then (some true) else ((laws_szItemS.f k l1 t256).bind fun t257 => (if t257 < 0 then (some true) else ((laws_toItemS.f k l0).bind fun t258 => ((laws_toItemS.f k l1).bind fun t261 => ((spec_RosterFollow.f k t258 t261).bind fun t264 => ((laws_toItemS.f k l0).bind fun t267 => ((laws_toItemS.f k l1).bind fun t270 => ((impl_RosterFollow.f k t267 t270).bind fun t273 => ((laws_eqItemS.f k t273 t264).bind fun t276 => (if t276 = true then ((laws_toItemS.f k l0).bind fun t277 => ((laws_eqItemS.f k t267 t277).bind fun t280 => (if t280 = true then ((laws_toItemS.f k l1).bind fun t281 => ((laws_eqItemS.f k t270 t281).bind fun t284 => (if t284 = true then ((laws_markItemS.f k t267 1).bind fun bt285 => ((laws_markItemS.f k t270 bt285.1).bind fun bt287 => (if bt287.1 < 0 then (laws_FnExactRosterFollow.j0 k l0 l1 t264 t273 true) else ((laws_eqItemS.f k t273 t264).bind fun t289 => (laws_FnExactRosterFollow.j0 k l0 l1 t264 t273 (!t289)))))) else (some false)))) else (some false)))) else (some false)))))))))))) = some r := H
 have A3 := Aside0.mk A30
 clear A30
 by_cases c4 : t256 < 0
 ·
  rw [if_pos c4] at H
  have c4b0 : decide (t256 < 0) = true := decide_eq_true c4
  clear c4
  obtain rfl := Option.some.inj H
  go_enter Try.func3, Try.ntmps3
  go_wp2_with (first | ((with_reducible refine gate_callee (f := 4) rfl ?_); refine goesL_ (some 16) rfl rfl Try.func4 (by kernel_rfl) rfl #[.slice A0 l0.length c0, .int .i64 1048576] rfl zb0_7 ?_; (with_reducible refine (laws_szItemS.calls k _ _ l0 1048576 t256 _ ?side1 ?side2 A3.out).mono ?_); (case side1 => repeat (first | exact HR0.out | (with_reducible refine Kd.C_alloc ?_ _) | (with_reducible refine Kd.C_drewN ?_ _) | (with_reducible refine Kd.C_drew ?_))); (case side2 => exact HC0.out); rintro e w5 ⟨rfl, hb⟩; refine ⟨_, rfl, ?_⟩; have n0_ := Aside0.mk (below_step zb1_7 hb); clear HB; have HB := n0_; clear n0_; (try clear hb); (try clear hb2); (try clear hk); (try clear hi)))
  go_ret
  exact ⟨by first | rfl | (simp [errW_none, errW_some] <;> rfl) | (simp [*, errW_none, errW_some] <;> rfl), by repeat (first | (with_reducible first | exact HB.out | apply below_alloc | apply pw_below_drewN | apply below_drew1) | exact HB.out)⟩
 ·
  rw [if_neg c4] at H
  have c4b0 : decide (t256 < 0) = false := decide_eq_false c4
  clear c4
  replace H := Option.bind_eq_some_iff.mp H
  obtain ⟨t257, A60, H⟩ := H
  replace H : (if t257 < 0 then (some true) else ((laws_toItemS.f k l0).bind fun t258 => ((laws_toItemS.f k l1).bind fun t261 => ((spec_RosterFollow.f k t258 t261).bind fun t264 => ((laws_toItemS.f k l0).bind fun t267 => ((laws_toItemS.f k l1).bind fun t270 => ((impl_RosterFollow.f k t267 t270).bind fun t273 => ((laws_eqItemS.f k t273 t264).bind fun t276 => (if t276 = true then ((laws_toItemS.f k l0).bind fun t277 => ((laws_eqItemS.f k t267 t277).bind fun t280 => (if t280 = true then ((laws_toItemS.f k l1).bind fun t281 => ((laws_eqItemS.f k t270 t281).bind fun t284 => (if t284 = true then ((laws_markItemS.f k t267 1).bind fun bt285 => ((laws_markItemS.f k t270 bt285.1).bind fun bt287 => (if bt287.1 < 0 then (laws_FnExactRosterFollow.j0 k l0 l1 t264 t273 true) else ((laws_eqItemS.f k t273 t264).bind fun t289 => (laws_FnExactRosterFollow.j0 k l0 l1 t264 t273 (!t289)))))) else (some false)))) else (some false)))) else (some false)))))))))) = some r := H
  have A6 := Aside0.mk A60
  clear A60
  by_cases c7 : t257 < 0
  ·
   rw [if_pos c7] at H
   have c7b0 : decide (t257 < 0) = true := decide_eq_true c7
   clear c7
   obtain rfl := Option.some.inj H
   go_enter Try.func3, Try.ntmps3
   go_wp2_with (first | ((with_reducible refine gate_callee (f := 4) rfl ?_); refine goesL_ (some 16) rfl rfl Try.func4 (by kernel_rfl) rfl #[.slice A0 l0.length c0, .int .i64 1048576] rfl zb0_7 ?_; (with_reducible refine (laws_szItemS.calls k _ _ l0 1048576 t256 _ ?side1 ?side2 A3.out).mono ?_); (case side1 => repeat (first | exact HR0.out | (with_reducible refine Kd.C_alloc ?_ _) | (with_reducible refine Kd.C_drewN ?_ _) | (with_reducible refine Kd.C_drew ?_))); (case side2 => exact HC0.out); rintro e w8 ⟨rfl, hb⟩; refine ⟨_, rfl, ?_⟩; have n0_ := Aside0.mk (below_step zb1_7 hb); clear HB; have HB := n0_; clear n0_; (try clear hb); (try clear hb2); (try clear hk); (try clear hi)) | ((with_reducible refine gate_callee (f := 4) rfl ?_); refine goesL_ (some 21) rfl rfl Try.func4 (by kernel_rfl) rfl #[.slice A1 l1.length c1, .int .i64 t256] rfl zb0_7 ?_; (with_reducible refine (laws_szItemS.calls k _ _ l1 t256 t257 _ ?side1 ?side2 A6.out).mono ?_); (case side1 => repeat (first | exact (Kd.C_below HR1.out HB.out) | (with_reducible refine Kd.C_alloc ?_ _) | (with_reducible refine Kd.C_drewN ?_ _) | (with_reducible refine Kd.C_drew ?_))); (case side2 => exact HC1.out); rintro e w9 ⟨rfl, hb⟩; refine ⟨_, rfl, ?_⟩; have n0_ := Aside0.mk (below_step zb1_7 hb); clear HB; have HB := n0_; clear n0_; (try clear hb); (try clear hb2); (try clear hk); (try clear hi)))
   go_ret
   exact ⟨by first | rfl | (simp [errW_none, errW_some] <;> rfl) | (simp [*, errW_none, errW_some] <;> rfl), by repeat (first | (with_reducible first | exact HB.out | apply below_alloc | apply pw_below_drewN | apply below_drew1) | exact HB.out)⟩
  ·
   rw [if_neg c7] at H
   have c7b0 : decide (t257 < 0) = false := decide_eq_false c7
   clear c7
   replace H := Option.bind_eq_some_iff.mp H
   obtain ⟨t258, A100, H⟩ := H
   replace H : ((laws_toItemS.f k l1).bind fun t261 => ((spec_RosterFollow.f k t258 t261).bind fun t264 => ((laws_toItemS.f k l0).bind fun t267 => ((laws_toItemS.f k l1).bind fun t270 => ((impl_RosterFollow.f k t267 t270).bind fun t273 => ((laws_eqItemS.f k t273 t264).bind fun t276 => (if t276 = true then ((laws_toItemS.f k l0).bind fun t277 => ((laws_eqItemS.f k t267 t277).bind fun t280 => (if t280 = true then ((laws_toItemS.f k l1).bind fun t281 => ((laws_eqItemS.f k t270 t281).bind fun t284 => (if t284 = true then ((laws_markItemS.f k t267 1).bind fun bt285 => ((laws_markItemS.f k t270 bt285.1).bind fun bt287 => (if bt287.1 < 0 then (laws_FnExactRosterFollow.j0 k l0 l1 t264 t273 true) else ((laws_eqItemS.f k t273 t264).bind fun t289 => (laws_FnExactRosterFollow.j0 k l0 l1 t264 t273 (!t289)))))) else (some false)))) else (some false)))) else (some false)))))))) = some r := H
   have A10 := Aside0.mk A100
   clear A100
   replace H := Option.bind_eq_some_iff.mp H
   obtain ⟨t261, A110, H⟩ := H
   replace H : ((spec_RosterFollow.f k t258 t261).bind fun t264 => ((laws_toItemS.f k l0).bind fun t267 => ((laws_toItemS.f k l1).bind fun t270 => ((impl_RosterFollow.f k t267 t270).bind fun t273 => ((laws_eqItemS.f k t273 t264).bind fun t276 => (if t276 = true then ((laws_toItemS.f k l0).bind fun t277 => ((laws_eqItemS.f k t267 t277).bind fun t280 => (if t280 = true then ((laws_toItemS.f k l1).bind fun t281 => ((laws_eqItemS.f k t270 t281).bind fun t284 => (if t284 = true then ((laws_markItemS.f k t267 1).bind fun bt285 => ((laws_markItemS.f k t270 bt285.1).bind fun bt287 => (if bt287.1 < 0 then (laws_FnExactRosterFollow.j0 k l0 l1 t264 t273 true) else ((laws_eqItemS.f k t273 t264).bind fun t289 => (laws_FnExactRosterFollow.j0 k l0 l1 t264 t273 (!t289)))))) else (some false)))) else (some false)))) else (some false))))))) = some r := H
   have A11 := Aside0.mk A110
   clear A110
   replace H := Option.bind_eq_some_iff.mp H
   obtain ⟨t264, A120, H⟩ := H
   replace H : ((laws_toItemS.f k l0).bind fun t267 => ((laws_toItemS.f k l1).bind fun t270 => ((impl_RosterFollow.f k t267 t270).bind fun t273 => ((laws_eqItemS.f k t273 t264).bind fun t276 => (if t276 = true then ((laws_toItemS.f k l0).bind fun t277 => ((laws_eqItemS.f k t267 t277).bind fun t280 => (if t280 = true then ((laws_toItemS.f k l1).bind fun t281 => ((laws_eqItemS.f k t270 t281).bind fun t284 => (if t284 = true then ((laws_markItemS.f k t267 1).bind fun bt285 => ((laws_markItemS.f k t270 bt285.1).bind fun bt287 => (if bt287.1 < 0 then (laws_FnExactRosterFollow.j0 k l0 l1 t264 t273 true) else ((laws_eqItemS.f k t273 t264).bind fun t289 => (laws_FnExactRosterFollow.j0 k l0 l1 t264 t273 (!t289)))))) else (some false)))) else (some false)))) else (some false)))))) = some r := H
   have A12 := Aside0.mk A120
   clear A120
   replace H := Option.bind_eq_some_iff.mp H
   obtain ⟨t267, A130, H⟩ := H
   replace H : ((laws_toItemS.f k l1).bind fun t270 => ((impl_RosterFollow.f k t267 t270).bind fun t273 => ((laws_eqItemS.f k t273 t264).bind fun t276 => (if t276 = true then ((laws_toItemS.f k l0).bind fun t277 => ((laws_eqItemS.f k t267 t277).bind fun t280 => (if t280 = true then ((laws_toItemS.f k l1).bind fun t281 => ((laws_eqItemS.f k t270 t281).bind fun t284 => (if t284 = true then ((laws_markItemS.f k t267 1).bind fun bt285 => ((laws_markItemS.f k t270 bt285.1).bind fun bt287 => (if bt287.1 < 0 then (laws_FnExactRosterFollow.j0 k l0 l1 t264 t273 true) else ((laws_eqItemS.f k t273 t264).bind fun t289 => (laws_FnExactRosterFollow.j0 k l0 l1 t264 t273 (!t289)))))) else (some false)))) else (some false)))) else (some false))))) = some r := H
   have A13 := Aside0.mk A130
   clear A130
   replace H := Option.bind_eq_some_iff.mp H
   obtain ⟨t270, A140, H⟩ := H
   replace H : ((impl_RosterFollow.f k t267 t270).bind fun t273 => ((laws_eqItemS.f k t273 t264).bind fun t276 => (if t276 = true then ((laws_toItemS.f k l0).bind fun t277 => ((laws_eqItemS.f k t267 t277).bind fun t280 => (if t280 = true then ((laws_toItemS.f k l1).bind fun t281 => ((laws_eqItemS.f k t270 t281).bind fun t284 => (if t284 = true then ((laws_markItemS.f k t267 1).bind fun bt285 => ((laws_markItemS.f k t270 bt285.1).bind fun bt287 => (if bt287.1 < 0 then (laws_FnExactRosterFollow.j0 k l0 l1 t264 t273 true) else ((laws_eqItemS.f k t273 t264).bind fun t289 => (laws_FnExactRosterFollow.j0 k l0 l1 t264 t273 (!t289)))))) else (some false)))) else (some false)))) else (some false)))) = some r := H
   have A14 := Aside0.mk A140
   clear A140
   replace H := Option.bind_eq_some_iff.mp H
   obtain ⟨t273, A150, H⟩ := H
   replace H : ((laws_eqItemS.f k t273 t264).bind fun t276 => (if t276 = true then ((laws_toItemS.f k l0).bind fun t277 => ((laws_eqItemS.f k t267 t277).bind fun t280 => (if t280 = true then ((laws_toItemS.f k l1).bind fun t281 => ((laws_eqItemS.f k t270 t281).bind fun t284 => (if t284 = true then ((laws_markItemS.f k t267 1).bind fun bt285 => ((laws_markItemS.f k t270 bt285.1).bind fun bt287 => (if bt287.1 < 0 then (laws_FnExactRosterFollow.j0 k l0 l1 t264 t273 true) else ((laws_eqItemS.f k t273 t264).bind fun t289 => (laws_FnExactRosterFollow.j0 k l0 l1 t264 t273 (!t289)))))) else (some false)))) else (some false)))) else (some false))) = some r := H
   have A15 := Aside0.mk A150
   clear A150
   replace H := Option.bind_eq_some_iff.mp H
   obtain ⟨t276, A160, H⟩ := H
   replace H : (if t276 = true then ((laws_toItemS.f k l0).bind fun t277 => ((laws_eqItemS.f k t267 t277).bind fun t280 => (if t280 = true then ((laws_toItemS.f k l1).bind fun t281 => ((laws_eqItemS.f k t270 t281).bind fun t284 => (if t284 = true then ((laws_markItemS.f k t267 1).bind fun bt285 => ((laws_markItemS.f k t270 bt285.1).bind fun bt287 => (if bt287.1 < 0 then (laws_FnExactRosterFollow.j0 k l0 l1 t264 t273 true) else ((laws_eqItemS.f k t273 t264).bind fun t289 => (laws_FnExactRosterFollow.j0 k l0 l1 t264 t273 (!t289)))))) else (some false)))) else (some false)))) else (some false)) = some r := H
   have A16 := Aside0.mk A160
   clear A160
   by_cases c17 : t276 = true
   ·
    subst c17
    have H1 : ((laws_toItemS.f k l0).bind fun t277 => ((laws_eqItemS.f k t267 t277).bind fun t280 => (if t280 = true then ((laws_toItemS.f k l1).bind fun t281 => ((laws_eqItemS.f k t270 t281).bind fun t284 => (if t284 = true then ((laws_markItemS.f k t267 1).bind fun bt285 => ((laws_markItemS.f k t270 bt285.1).bind fun bt287 => (if bt287.1 < 0 then (laws_FnExactRosterFollow.j0 k l0 l1 t264 t273 true) else ((laws_eqItemS.f k t273 t264).bind fun t289 => (laws_FnExactRosterFollow.j0 k l0 l1 t264 t273 (!t289)))))) else (some false)))) else (some false)))) = some r := by rw [if_pos rfl] at H; exact H
    clear H
    have H := H1
    clear H1
    replace H := Option.bind_eq_some_iff.mp H
    obtain ⟨t277, A180, H⟩ := H
    replace H : ((laws_eqItemS.f k t267 t277).bind fun t280 => (if t280 = true then ((laws_toItemS.f k l1).bind fun t281 => ((laws_eqItemS.f k t270 t281).bind fun t284 => (if t284 = true then ((laws_markItemS.f k t267 1).bind fun bt285 => ((laws_markItemS.f k t270 bt285.1).bind fun bt287 => (if bt287.1 < 0 then (laws_FnExactRosterFollow.j0 k l0 l1 t264 t273 true) else ((laws_eqItemS.f k t273 t264).bind fun t289 => (laws_FnExactRosterFollow.j0 k l0 l1 t264 t273 (!t289)))))) else (some false)))) else (some false))) = some r := H
    have A18 := Aside0.mk A180
    clear A180
    replace H := Option.bind_eq_some_iff.mp H
    obtain ⟨t280, A190, H⟩ := H
    replace H : (if t280 = true then ((laws_toItemS.f k l1).bind fun t281 => ((laws_eqItemS.f k t270 t281).bind fun t284 => (if t284 = true then ((laws_markItemS.f k t267 1).bind fun bt285 => ((laws_markItemS.f k t270 bt285.1).bind fun bt287 => (if bt287.1 < 0 then (laws_FnExactRosterFollow.j0 k l0 l1 t264 t273 true) else ((laws_eqItemS.f k t273 t264).bind fun t289 => (laws_FnExactRosterFollow.j0 k l0 l1 t264 t273 (!t289)))))) else (some false)))) else (some false)) = some r := H
    have A19 := Aside0.mk A190
    clear A190
    by_cases c20 : t280 = true
    ·
     subst c20
     have H1 : ((laws_toItemS.f k l1).bind fun t281 => ((laws_eqItemS.f k t270 t281).bind fun t284 => (if t284 = true then ((laws_markItemS.f k t267 1).bind fun bt285 => ((laws_markItemS.f k t270 bt285.1).bind fun bt287 => (if bt287.1 < 0 then (laws_FnExactRosterFollow.j0 k l0 l1 t264 t273 true) else ((laws_eqItemS.f k t273 t264).bind fun t289 => (laws_FnExactRosterFollow.j0 k l0 l1 t264 t273 (!t289)))))) else (some false)))) = some r := by rw [if_pos rfl] at H; exact H
     clear H
     have H := H1
     clear H1
     replace H := Option.bind_eq_some_iff.mp H
     obtain ⟨t281, A210, H⟩ := H
     replace H : ((laws_eqItemS.f k t270 t281).bind fun t284 => (if t284 = true then ((laws_markItemS.f k t267 1).bind fun bt285 => ((laws_markItemS.f k t270 bt285.1).bind fun bt287 => (if bt287.1 < 0 then (laws_FnExactRosterFollow.j0 k l0 l1 t264 t273 true) else ((laws_eqItemS.f k t273 t264).bind fun t289 => (laws_FnExactRosterFollow.j0 k l0 l1 t264 t273 (!t289)))))) else (some false))) = some r := H
     have A21 := Aside0.mk A210
     clear A210
     replace H := Option.bind_eq_some_iff.mp H
     obtain ⟨t284, A220, H⟩ := H
     replace H : (if t284 = true then ((laws_markItemS.f k t267 1).bind fun bt285 => ((laws_markItemS.f k t270 bt285.1).bind fun bt287 => (if bt287.1 < 0 then (laws_FnExactRosterFollow.j0 k l0 l1 t264 t273 true) else ((laws_eqItemS.f k t273 t264).bind fun t289 => (laws_FnExactRosterFollow.j0 k l0 l1 t264 t273 (!t289)))))) else (some false)) = some r := H
     have A22 := Aside0.mk A220
     clear A220
     by_cases c23 : t284 = true
     ·
      subst c23
      have H1 : ((laws_markItemS.f k t267 1).bind fun bt285 => ((laws_markItemS.f k t270 bt285.1).bind fun bt287 => (if bt287.1 < 0 then (laws_FnExactRosterFollow.j0 k l0 l1 t264 t273 true) else ((laws_eqItemS.f k t273 t264).bind fun t289 => (laws_FnExactRosterFollow.j0 k l0 l1 t264 t273 (!t289)))))) = some r := by rw [if_pos rfl] at H; exact H
      clear H
      have H := H1
      clear H1
      replace H := Option.bind_eq_some_iff.mp H
      obtain ⟨⟨t285, t286⟩, A240, H⟩ := H
      replace H : ((laws_markItemS.f k t270 t285).bind fun bt287 => (if bt287.1 < 0 then (laws_FnExactRosterFollow.j0 k l0 l1 t264 t273 true) else ((laws_eqItemS.f k t273 t264).bind fun t289 => (laws_FnExactRosterFollow.j0 k l0 l1 t264 t273 (!t289))))) = some r := H
      have A24 := Aside0.mk A240
      clear A240
      replace H := Option.bind_eq_some_iff.mp H
      obtain ⟨⟨t287, t288⟩, A250, H⟩ := H
      replace H : (if t287 < 0 then (laws_FnExactRosterFollow.j0 k l0 l1 t264 t273 true) else ((laws_eqItemS.f k t273 t264).bind fun t289 => (laws_FnExactRosterFollow.j0 k l0 l1 t264 t273 (!t289)))) = some r := H
      have A25 := Aside0.mk A250
      clear A250
      have HC26 := Aside0.mk H
      clear H
      go_enter Try.func3, Try.ntmps3
      go_upto_region 21 with (first | ((with_reducible refine gate_callee (f := 4) rfl ?_); refine goesL_ (some 16) rfl rfl Try.func4 (by kernel_rfl) rfl #[.slice A0 l0.length c0, .int .i64 1048576] rfl zb0_7 ?_; (with_reducible refine (laws_szItemS.calls k _ _ l0 1048576 t256 _ ?side1 ?side2 A3.out).mono ?_); (case side1 => repeat (first | exact HR0.out | (with_reducible refine Kd.C_alloc ?_ _) | (with_reducible refine Kd.C_drewN ?_ _) | (with_reducible refine Kd.C_drew ?_))); (case side2 => exact HC0.out); rintro e w27 ⟨rfl, hb⟩; refine ⟨_, rfl, ?_⟩; have n0_ := Aside0.mk (below_step zb1_7 hb); clear HB; have HB := n0_; clear n0_; (try clear hb); (try clear hb2); (try clear hk); (try clear hi)) | ((with_reducible refine gate_callee (f := 4) rfl ?_); refine goesL_ (some 21) rfl rfl Try.func4 (by kernel_rfl) rfl #[.slice A1 l1.length c1, .int .i64 t256] rfl zb0_7 ?_; (with_reducible refine (laws_szItemS.calls k _ _ l1 t256 t257 _ ?side1 ?side2 A6.out).mono ?_); (case side1 => repeat (first | exact (Kd.C_below HR1.out HB.out) | (with_reducible refine Kd.C_alloc ?_ _) | (with_reducible refine Kd.C_drewN ?_ _) | (with_reducible refine Kd.C_drew ?_))); (case side2 => exact HC1.out); rintro e w28 ⟨rfl, hb⟩; refine ⟨_, rfl, ?_⟩; have n0_ := Aside0.mk (below_step zb1_7 hb); clear HB; have HB := n0_; clear n0_; (try clear hb); (try clear hb2); (try clear hk); (try clear hi)) | ((with_reducible refine gate_callee (f := 6) rfl ?_); refine goesL_ (some 25) rfl rfl Try.func6 (by kernel_rfl) rfl #[.slice A0 l0.length c0] rfl zb0_7 ?_; (with_reducible refine (laws_toItemS.calls k _ _ l0 t258 _ ?side1 ?side2 A10.out).mono ?_); (case side1 => repeat (first | exact (Kd.C_below HR0.out HB.out) | (with_reducible refine Kd.C_alloc ?_ _) | (with_reducible refine Kd.C_drewN ?_ _) | (with_reducible refine Kd.C_drew ?_))); (case side2 => exact HC0.out); rintro e w29 ⟨v259, rfl, ho0, hb⟩; refine ⟨_, rfl, ?_⟩; have n0_ := Aside0.mk (Kd.R_lower ho0 (below_size zb1_7)); have n1_ := Aside0.mk (below_step zb1_7 hb); clear HB; have HO260 := n0_; have HB := n1_; clear n0_ n1_; (try clear hb); (try clear hb2); (try clear hk); (try clear hi); (try clear ho0)) | ((with_reducible refine gate_callee (f := 6) rfl ?_); refine goesL_ (some 27) rfl rfl Try.func6 (by kernel_rfl) rfl #[.slice A1 l1.length c1] rfl zb0_7 ?_; (with_reducible refine (laws_toItemS.calls k _ _ l1 t261 _ ?side1 ?side2 A11.out).mono ?_); (case side1 => repeat (first | exact (Kd.C_below HR1.out HB.out) | (with_reducible refine Kd.C_alloc ?_ _) | (with_reducible refine Kd.C_drewN ?_ _) | (with_reducible refine Kd.C_drew ?_))); (case side2 => exact HC1.out); rintro e w30 ⟨v262, rfl, ho0, hb⟩; refine ⟨_, rfl, ?_⟩; have n0_ := Aside0.mk (Kd.R_elder' zb2_7 (Kd.R_base ho0) hb); have n1_ := Aside0.mk (Kd.R_lower (Kd.R_new' ho0 (Kd.R_lt zb2_7)) (below_size zb1_7)); have n2_ := Aside0.mk (below_step zb1_7 hb); clear HO260; clear HB; have HO260 := n0_; have HO263 := n1_; have HB := n2_; clear n0_ n1_ n2_; (try clear hb); (try clear hb2); (try clear hk); (try clear hi); (try clear ho0); obtain ⟨Ao31, co31, eo31⟩ := Kd.R_slice HO260.out; subst eo31; obtain ⟨Ao32, co32, eo32⟩ := Kd.R_slice HO263.out; subst eo32) | ((with_reducible refine gate_callee (f := 5) rfl ?_); refine goesL_ (some 28) rfl rfl Try.func5 (by kernel_rfl) rfl #[.slice Ao31 t258.length co31, .slice Ao32 t261.length co32] rfl zb0_7 ?_; (with_reducible refine (spec_RosterFollow.calls k _ _ t258 _ _ t261 t264 _ ?side1 ?side2 ?side3 ?side4 A12.out).mono ?_); (case side1 => repeat (first | exact (Kd.R_reads' HO260.out).2.2 | (with_reducible refine Kd.C_alloc ?_ _) | (with_reducible refine Kd.C_drewN ?_ _) | (with_reducible refine Kd.C_drew ?_))); (case side2 => exact (Kd.R_reads' HO260.out).2.1); (case side3 => repeat (first | exact (Kd.R_reads' HO263.out).2.2 | (with_reducible refine Kd.C_alloc ?_ _) | (with_reducible refine Kd.C_drewN ?_ _) | (with_reducible refine Kd.C_drew ?_))); (case side4 => exact (Kd.R_reads' HO263.out).2.1); rintro e w33 ⟨v265, rfl, ho0, hb⟩; refine ⟨_, rfl, ?_⟩; have n0_ := Aside0.mk (Kd.R_elder' zb2_7 (Kd.R_base ho0) hb); have n1_ := Aside0.mk (Kd.R_elder' zb3_7 (Kd.R_base ho0) hb); have n2_ := Aside0.mk (Kd.R_lower (Kd.R_new' (Kd.R_new' ho0 (Kd.R_lt zb2_7)) (Kd.R_lt zb3_7)) (below_size zb1_7)); have n3_ := Aside0.mk (below_step zb1_7 hb); clear HO260; clear HO263; clear HB; have HO260 := n0_; have HO263 := n1_; have HO266 := n2_; have HB := n3_; clear n0_ n1_ n2_ n3_; (try clear hb); (try clear hb2); (try clear hk); (try clear hi); (try clear ho0)) | ((with_reducible refine gate_callee (f := 6) rfl ?_); refine goesL_ (some 30) rfl rfl Try.func6 (by kernel_rfl) rfl #[.slice A0 l0.length c0] rfl zb0_7 ?_; (with_reducible refine (laws_toItemS.calls k _ _ l0 t267 _ ?side1 ?side2 A13.out).mono ?_); (case side1 => repeat (first | exact (Kd.C_below HR0.out HB.out) | (with_reducible refine Kd.C_alloc ?_ _) | (with_reducible refine Kd.C_drewN ?_ _) | (with_reducible refine Kd.C_drew ?_))); (case side2 => exact HC0.out); rintro e w34 ⟨v268, rfl, ho0, hb⟩; refine ⟨_, rfl, ?_⟩; have n0_ := Aside0.mk (Kd.R_elder' zb2_7 (Kd.R_base ho0) hb); have n1_ := Aside0.mk (Kd.R_elder' zb3_7 (Kd.R_base ho0) hb); have n2_ := Aside0.mk (Kd.R_elder' zb4_7 (Kd.R_base ho0) hb); have n3_ := Aside0.mk (Kd.R_lower (Kd.R_new' (Kd.R_new' (Kd.R_new' ho0 (Kd.R_lt zb2_7)) (Kd.R_lt zb3_7)) (Kd.R_lt zb4_7)) (below_size zb1_7)); have n4_ := Aside0.mk (below_step zb1_7 hb); clear HO260; clear HO263; clear HO266; clear HB; have HO260 := n0_; have HO263 := n1_; have HO266 := n2_; have HO269 := n3_; have HB := n4_; clear n0_ n1_ n2_ n3_ n4_; (try clear hb); (try clear hb2); (try clear hk); (try clear hi); (try clear ho0)) | ((with_reducible refine gate_callee (f := 6) rfl ?_); refine goesL_ (some 32) rfl rfl Try.func6 (by kernel_rfl) rfl #[.slice A1 l1.length c1] rfl zb0_7 ?_; (with_reducible refine (laws_toItemS.calls k _ _ l1 t270 _ ?side1 ?side2 A14.out).mono ?_); (case side1 => repeat (first | exact (Kd.C_below HR1.out HB.out) | (with_reducible refine Kd.C_alloc ?_ _) | (with_reducible refine Kd.C_drewN ?_ _) | (with_reducible refine Kd.C_drew ?_))); (case side2 => exact HC1.out); rintro e w35 ⟨v271, rfl, ho0, hb⟩; refine ⟨_, rfl, ?_⟩; have n0_ := Aside0.mk (Kd.R_elder' zb2_7 (Kd.R_base ho0) hb); have n1_ := Aside0.mk (Kd.R_elder' zb3_7 (Kd.R_base ho0) hb); have n2_ := Aside0.mk (Kd.R_elder' zb4_7 (Kd.R_base ho0) hb); have n3_ := Aside0.mk (Kd.R_elder' zb5_7 (Kd.R_base ho0) hb); have n4_ := Aside0.mk (Kd.R_lower (Kd.R_new' (Kd.R_new' (Kd.R_new' (Kd.R_new' ho0 (Kd.R_lt zb2_7)) (Kd.R_lt zb3_7)) (Kd.R_lt zb4_7)) (Kd.R_lt zb5_7)) (below_size zb1_7)); have n5_ := Aside0.mk (below_step zb1_7 hb); clear HO260; clear HO263; clear HO266; clear HO269; clear HB; have HO260 := n0_; have HO263 := n1_; have HO266 := n2_; have HO269 := n3_; have HO272 := n4_; have HB := n5_; clear n0_ n1_ n2_ n3_ n4_ n5_; (try clear hb); (try clear hb2); (try clear hk); (try clear hi); (try clear ho0); obtain ⟨Ao36, co36, eo36⟩ := Kd.R_slice HO269.out; subst eo36; obtain ⟨Ao37, co37, eo37⟩ := Kd.R_slice HO272.out; subst eo37) | ((with_reducible refine gate_callee (f := 7) rfl ?_); refine goesL_ (some 35) rfl rfl Try.func7 (by kernel_rfl) rfl #[.slice Ao36 t267.length co36, .slice Ao37 t270.length co37] rfl zb0_7 ?_; (with_reducible refine (impl_RosterFollow.calls k _ _ t267 _ _ t270 t273 _ ?side1 ?side2 ?side3 ?side4 A15.out).mono ?_); (case side1 => repeat (first | exact (Kd.R_reads' HO269.out).2.2 | (with_reducible refine Kd.C_alloc ?_ _) | (with_reducible refine Kd.C_drewN ?_ _) | (with_reducible refine Kd.C_drew ?_))); (case side2 => exact (Kd.R_reads' HO269.out).2.1); (case side3 => repeat (first | exact (Kd.R_reads' HO272.out).2.2 | (with_reducible refine Kd.C_alloc ?_ _) | (with_reducible refine Kd.C_drewN ?_ _) | (with_reducible refine Kd.C_drew ?_))); (case side4 => exact (Kd.R_reads' HO272.out).2.1); rintro e w38 ⟨v274, rfl, ho0, hb⟩; refine ⟨_, rfl, ?_⟩; have n0_ := Aside0.mk (Kd.R_elder' zb2_7 (Kd.R_base ho0) hb); have n1_ := Aside0.mk (Kd.R_elder' zb3_7 (Kd.R_base ho0) hb); have n2_ := Aside0.mk (Kd.R_elder' zb4_7 (Kd.R_base ho0) hb); have n3_ := Aside0.mk (Kd.R_elder' zb5_7 (Kd.R_base ho0) hb); have n4_ := Aside0.mk (Kd.R_elder' zb6_7 (Kd.R_base ho0) hb); have n5_ := Aside0.mk (Kd.R_lower (Kd.R_new' (Kd.R_new' (Kd.R_new' (Kd.R_new' (Kd.R_new' ho0 (Kd.R_lt zb2_7)) (Kd.R_lt zb3_7)) (Kd.R_lt zb4_7)) (Kd.R_lt zb5_7)) (Kd.R_lt zb6_7)) (below_size zb1_7)); have n6_ := Aside0.mk (below_step zb1_7 hb); clear HO260; clear HO263; clear HO266; clear HO269; clear HO272; clear HB; have HO260 := n0_; have HO263 := n1_; have HO266 := n2_; have HO269 := n3_; have HO272 := n4_; have HO275 := n5_; have HB := n6_; clear n0_ n1_ n2_ n3_ n4_ n5_ n6_; (try clear hb); (try clear hb2); (try clear hk); (try clear hi); (try clear ho0); obtain ⟨Ao39, co39, eo39⟩ := Kd.R_slice HO275.out; subst eo39; obtain ⟨Ao40, co40, eo40⟩ := Kd.R_slice HO266.out; subst eo40) | ((with_reducible refine gate_callee (f := 8) rfl ?_); refine goesL_ (some 38) rfl rfl Try.func8 (by kernel_rfl) rfl #[.slice Ao39 t273.length co39, .slice Ao40 t264.length co40] rfl zb0_7 ?_; (with_reducible refine (laws_eqItemS.calls k _ _ t273 _ _ t264 true _ ?side1 ?side2 ?side3 ?side4 A16.out).mono ?_); (case side1 => repeat (first | exact (Kd.R_reads' HO275.out).2.2 | (with_reducible refine Kd.C_alloc ?_ _) | (with_reducible refine Kd.C_drewN ?_ _) | (with_reducible refine Kd.C_drew ?_))); (case side2 => exact (Kd.R_reads' HO275.out).2.1); (case side3 => repeat (first | exact (Kd.R_reads' HO266.out).2.2 | (with_reducible refine Kd.C_alloc ?_ _) | (with_reducible refine Kd.C_drewN ?_ _) | (with_reducible refine Kd.C_drew ?_))); (case side4 => exact (Kd.R_reads' HO266.out).2.1); rintro e w41 ⟨rfl, hb⟩; refine ⟨_, rfl, ?_⟩; have n0_ := Aside0.mk (Kd.R_below zb2_7 hb); have n1_ := Aside0.mk (Kd.R_below zb3_7 hb); have n2_ := Aside0.mk (Kd.R_below zb4_7 hb); have n3_ := Aside0.mk (Kd.R_below zb5_7 hb); have n4_ := Aside0.mk (Kd.R_below zb6_7 hb); have n5_ := Aside0.mk (Kd.R_below zb7_7 hb); have n6_ := Aside0.mk (below_step zb1_7 hb); clear HO260; clear HO263; clear HO266; clear HO269; clear HO272; clear HO275; clear HB; have HO260 := n0_; have HO263 := n1_; have HO266 := n2_; have HO269 := n3_; have HO272 := n4_; have HO275 := n5_; have HB := n6_; clear n0_ n1_ n2_ n3_ n4_ n5_ n6_; (try clear hb); (try clear hb2); (try clear hk); (try clear hi)) | ((with_reducible refine gate_callee (f := 6) rfl ?_); refine goesL_ (some 42) rfl rfl Try.func6 (by kernel_rfl) rfl #[.slice A0 l0.length c0] rfl zb0_7 ?_; (with_reducible refine (laws_toItemS.calls k _ _ l0 t277 _ ?side1 ?side2 A18.out).mono ?_); (case side1 => repeat (first | exact (Kd.C_below HR0.out HB.out) | (with_reducible refine Kd.C_alloc ?_ _) | (with_reducible refine Kd.C_drewN ?_ _) | (with_reducible refine Kd.C_drew ?_))); (case side2 => exact HC0.out); rintro e w42 ⟨v278, rfl, ho0, hb⟩; refine ⟨_, rfl, ?_⟩; have n0_ := Aside0.mk (Kd.R_elder' zb2_7 (Kd.R_base ho0) hb); have n1_ := Aside0.mk (Kd.R_elder' zb3_7 (Kd.R_base ho0) hb); have n2_ := Aside0.mk (Kd.R_elder' zb4_7 (Kd.R_base ho0) hb); have n3_ := Aside0.mk (Kd.R_elder' zb5_7 (Kd.R_base ho0) hb); have n4_ := Aside0.mk (Kd.R_elder' zb6_7 (Kd.R_base ho0) hb); have n5_ := Aside0.mk (Kd.R_elder' zb7_7 (Kd.R_base ho0) hb); have n6_ := Aside0.mk (Kd.R_lower (Kd.R_new' (Kd.R_new' (Kd.R_new' (Kd.R_new' (Kd.R_new' (Kd.R_new' ho0 (Kd.R_lt zb2_7)) (Kd.R_lt zb3_7)) (Kd.R_lt zb4_7)) (Kd.R_lt zb5_7)) (Kd.R_lt zb6_7)) (Kd.R_lt zb7_7)) (below_size zb1_7)); have n7_ := Aside0.mk (below_step zb1_7 hb); clear HO260; clear HO263; clear HO266; clear HO269; clear HO272; clear HO275; clear HB; have HO260 := n0_; have HO263 := n1_; have HO266 := n2_; have HO269 := n3_; have HO272 := n4_; have HO275 := n5_; have HO279 := n6_; have HB := n7_; clear n0_ n1_ n2_ n3_ n4_ n5_ n6_ n7_; (try clear hb); (try clear hb2); (try clear hk); (try clear hi); (try clear ho0); obtain ⟨Ao43, co43, eo43⟩ := Kd.R_slice HO279.out; subst eo43) | ((with_reducible refine gate_callee (f := 8) rfl ?_); refine goesL_ (some 43) rfl rfl Try.func8 (by kernel_rfl) rfl #[.slice Ao36 t267.length co36, .slice Ao43 t277.length co43] rfl zb0_7 ?_; (with_reducible refine (laws_eqItemS.calls k _ _ t267 _ _ t277 true _ ?side1 ?side2 ?side3 ?side4 A19.out).mono ?_); (case side1 => repeat (first | exact (Kd.R_reads' HO269.out).2.2 | (with_reducible refine Kd.C_alloc ?_ _) | (with_reducible refine Kd.C_drewN ?_ _) | (with_reducible refine Kd.C_drew ?_))); (case side2 => exact (Kd.R_reads' HO269.out).2.1); (case side3 => repeat (first | exact (Kd.R_reads' HO279.out).2.2 | (with_reducible refine Kd.C_alloc ?_ _) | (with_reducible refine Kd.C_drewN ?_ _) | (with_reducible refine Kd.C_drew ?_))); (case side4 => exact (Kd.R_reads' HO279.out).2.1); rintro e w44 ⟨rfl, hb⟩; refine ⟨_, rfl, ?_⟩; have n0_ := Aside0.mk (Kd.R_below zb2_7 hb); have n1_ := Aside0.mk (Kd.R_below zb3_7 hb); have n2_ := Aside0.mk (Kd.R_below zb4_7 hb); have n3_ := Aside0.mk (Kd.R_below zb5_7 hb); have n4_ := Aside0.mk (Kd.R_below zb6_7 hb); have n5_ := Aside0.mk (Kd.R_below zb7_7 hb); have n6_ := Aside0.mk (Kd.R_below zb8_7 hb); have n7_ := Aside0.mk (below_step zb1_7 hb); clear HO260; clear HO263; clear HO266; clear HO269; clear HO272; clear HO275; clear HO279; clear HB; have HO260 := n0_; have HO263 := n1_; have HO266 := n2_; have HO269 := n3_; have HO272 := n4_; have HO275 := n5_; have HO279 := n6_; have HB := n7_; clear n0_ n1_ n2_ n3_ n4_ n5_ n6_ n7_; (try clear hb); (try clear hb2); (try clear hk); (try clear hi)) | ((with_reducible refine gate_callee (f := 6) rfl ?_); refine goesL_ (some 47) rfl rfl Try.func6 (by kernel_rfl) rfl #[.slice A1 l1.length c1] rfl zb0_7 ?_; (with_reducible refine (laws_toItemS.calls k _ _ l1 t281 _ ?side1 ?side2 A21.out).mono ?_); (case side1 => repeat (first | exact (Kd.C_below HR1.out HB.out) | (with_reducible refine Kd.C_alloc ?_ _) | (with_reducible refine Kd.C_drewN ?_ _) | (with_reducible refine Kd.C_drew ?_))); (case side2 => exact HC1.out); rintro e w45 ⟨v282, rfl, ho0, hb⟩; refine ⟨_, rfl, ?_⟩; have n0_ := Aside0.mk (Kd.R_elder' zb2_7 (Kd.R_base ho0) hb); have n1_ := Aside0.mk (Kd.R_elder' zb3_7 (Kd.R_base ho0) hb); have n2_ := Aside0.mk (Kd.R_elder' zb4_7 (Kd.R_base ho0) hb); have n3_ := Aside0.mk (Kd.R_elder' zb5_7 (Kd.R_base ho0) hb); have n4_ := Aside0.mk (Kd.R_elder' zb6_7 (Kd.R_base ho0) hb); have n5_ := Aside0.mk (Kd.R_elder' zb7_7 (Kd.R_base ho0) hb); have n6_ := Aside0.mk (Kd.R_elder' zb8_7 (Kd.R_base ho0) hb); have n7_ := Aside0.mk (Kd.R_lower (Kd.R_new' (Kd.R_new' (Kd.R_new' (Kd.R_new' (Kd.R_new' (Kd.R_new' (Kd.R_new' ho0 (Kd.R_lt zb2_7)) (Kd.R_lt zb3_7)) (Kd.R_lt zb4_7)) (Kd.R_lt zb5_7)) (Kd.R_lt zb6_7)) (Kd.R_lt zb7_7)) (Kd.R_lt zb8_7)) (below_size zb1_7)); have n8_ := Aside0.mk (below_step zb1_7 hb); clear HO260; clear HO263; clear HO266; clear HO269; clear HO272; clear HO275; clear HO279; clear HB; have HO260 := n0_; have HO263 := n1_; have HO266 := n2_; have HO269 := n3_; have HO272 := n4_; have HO275 := n5_; have HO279 := n6_; have HO283 := n7_; have HB := n8_; clear n0_ n1_ n2_ n3_ n4_ n5_ n6_ n7_ n8_; (try clear hb); (try clear hb2); (try clear hk); (try clear hi); (try clear ho0); obtain ⟨Ao46, co46, eo46⟩ := Kd.R_slice HO283.out; subst eo46) | ((with_reducible refine gate_callee (f := 8) rfl ?_); refine goesL_ (some 48) rfl rfl Try.func8 (by kernel_rfl) rfl #[.slice Ao37 t270.length co37, .slice Ao46 t281.length co46] rfl zb0_7 ?_; (with_reducible refine (laws_eqItemS.calls k _ _ t270 _ _ t281 true _ ?side1 ?side2 ?side3 ?side4 A22.out).mono ?_); (case side1 => repeat (first | exact (Kd.R_reads' HO272.out).2.2 | (with_reducible refine Kd.C_alloc ?_ _) | (with_reducible refine Kd.C_drewN ?_ _) | (with_reducible refine Kd.C_drew ?_))); (case side2 => exact (Kd.R_reads' HO272.out).2.1); (case side3 => repeat (first | exact (Kd.R_reads' HO283.out).2.2 | (with_reducible refine Kd.C_alloc ?_ _) | (with_reducible refine Kd.C_drewN ?_ _) | (with_reducible refine Kd.C_drew ?_))); (case side4 => exact (Kd.R_reads' HO283.out).2.1); rintro e w47 ⟨rfl, hb⟩; refine ⟨_, rfl, ?_⟩; have n0_ := Aside0.mk (Kd.R_below zb2_7 hb); have n1_ := Aside0.mk (Kd.R_below zb3_7 hb); have n2_ := Aside0.mk (Kd.R_below zb4_7 hb); have n3_ := Aside0.mk (Kd.R_below zb5_7 hb); have n4_ := Aside0.mk (Kd.R_below zb6_7 hb); have n5_ := Aside0.mk (Kd.R_below zb7_7 hb); have n6_ := Aside0.mk (Kd.R_below zb8_7 hb); have n7_ := Aside0.mk (Kd.R_below (by (with_reducible repeat (first | apply Kd.R_alloc | apply Kd.R_drewN | apply Kd.R_drew)); exact HO283.out) hb); have n8_ := Aside0.mk (below_step zb1_7 hb); clear HO260; clear HO263; clear HO266; clear HO269; clear HO272; clear HO275; clear HO279; clear HO283; clear HB; have HO260 := n0_; have HO263 := n1_; have HO266 := n2_; have HO269 := n3_; have HO272 := n4_; have HO275 := n5_; have HO279 := n6_; have HO283 := n7_; have HB := n8_; clear n0_ n1_ n2_ n3_ n4_ n5_ n6_ n7_ n8_; (try clear hb); (try clear hb2); (try clear hk); (try clear hi)) | ((with_reducible refine gate_callee (f := 9) rfl ?_); refine goesL_ (some 52) rfl rfl Try.func9 (by kernel_rfl) rfl #[.slice Ao36 t267.length co36, .int .i64 1] rfl zb0_7 ?_; (with_reducible refine (laws_markItemS.calls k (fun k_ => some k_ = (.slice Ao36 t267.length co36 : Value).ownBlock) (.slice Ao36 t267.length co36) t267 1 t285 t286 w _ ?side1 ?side2 A24.out).mono ?_); (case side1 => repeat (first | (with_reducible first | exact HB.out | apply below_alloc | apply pw_below_drewN | apply below_drew1) | exact HB.out)); (case side2 => exact Kd.R_tight rfl HO269.out); rintro e w48 ⟨rfl, hy0, hb, hkp⟩; refine ⟨_, rfl, ?_⟩; have n0_ := Aside0.mk (Kd.R_mono (ok' := fun k_ => some k_ ≠ (.slice Ao32 t261.length co32 : Value).ownBlock ∧ some k_ ≠ (.slice Ao40 t264.length co40 : Value).ownBlock ∧ some k_ ≠ (.slice Ao36 t267.length co36 : Value).ownBlock ∧ some k_ ≠ (.slice Ao37 t270.length co37 : Value).ownBlock ∧ some k_ ≠ (.slice Ao39 t273.length co39 : Value).ownBlock ∧ some k_ ≠ (.slice Ao43 t277.length co43 : Value).ownBlock ∧ some k_ ≠ (.slice Ao46 t281.length co46 : Value).ownBlock) (Kd.R_keptB (HO260.out) hkp (fun k_ hk_ hs_ => (hk_.1.1.1.1.2) hs_)) (fun k_ hk_ => ⟨hk_.1.1.1.1.1.1.1.2, hk_.1.1.1.1.1.1.2, hk_.1.1.1.1.1.2, hk_.1.1.1.1.2, hk_.1.1.1.2, hk_.1.1.2, hk_.1.2⟩)); have n1_ := Aside0.mk (Kd.R_mono (ok' := fun k_ => some k_ ≠ (.slice Ao31 t258.length co31 : Value).ownBlock ∧ some k_ ≠ (.slice Ao40 t264.length co40 : Value).ownBlock ∧ some k_ ≠ (.slice Ao36 t267.length co36 : Value).ownBlock ∧ some k_ ≠ (.slice Ao37 t270.length co37 : Value).ownBlock ∧ some k_ ≠ (.slice Ao39 t273.length co39 : Value).ownBlock ∧ some k_ ≠ (.slice Ao43 t277.length co43 : Value).ownBlock ∧ some k_ ≠ (.slice Ao46 t281.length co46 : Value).ownBlock) (Kd.R_keptB (HO263.out) hkp (fun k_ hk_ hs_ => (hk_.1.1.1.1.2) hs_)) (fun k_ hk_ => ⟨hk_.1.1.1.1.1.1.1.2, hk_.1.1.1.1.1.1.2, hk_.1.1.1.1.1.2, hk_.1.1.1.1.2, hk_.1.1.1.2, hk_.1.1.2, hk_.1.2⟩)); have n2_ := Aside0.mk (Kd.R_mono (ok' := fun k_ => some k_ ≠ (.slice Ao31 t258.length co31 : Value).ownBlock ∧ some k_ ≠ (.slice Ao32 t261.length co32 : Value).ownBlock ∧ some k_ ≠ (.slice Ao36 t267.length co36 : Value).ownBlock ∧ some k_ ≠ (.slice Ao37 t270.length co37 : Value).ownBlock ∧ some k_ ≠ (.slice Ao39 t273.length co39 : Value).ownBlock ∧ some k_ ≠ (.slice Ao43 t277.length co43 : Value).ownBlock ∧ some k_ ≠ (.slice Ao46 t281.length co46 : Value).ownBlock) (Kd.R_keptB (HO266.out) hkp (fun k_ hk_ hs_ => (hk_.1.1.1.1.2) hs_)) (fun k_ hk_ => ⟨hk_.1.1.1.1.1.1.1.2, hk_.1.1.1.1.1.1.2, hk_.1.1.1.1.1.2, hk_.1.1.1.1.2, hk_.1.1.1.2, hk_.1.1.2, hk_.1.2⟩)); have n3_ := Aside0.mk (Kd.R_reok rfl hy0 (fun k_ e_ => HO269.out.1 k_ e_)); have n4_ := Aside0.mk (Kd.R_mono (ok' := fun k_ => some k_ ≠ (.slice Ao31 t258.length co31 : Value).ownBlock ∧ some k_ ≠ (.slice Ao32 t261.length co32 : Value).ownBlock ∧ some k_ ≠ (.slice Ao40 t264.length co40 : Value).ownBlock ∧ some k_ ≠ (.slice Ao36 t267.length co36 : Value).ownBlock ∧ some k_ ≠ (.slice Ao39 t273.length co39 : Value).ownBlock ∧ some k_ ≠ (.slice Ao43 t277.length co43 : Value).ownBlock ∧ some k_ ≠ (.slice Ao46 t281.length co46 : Value).ownBlock) (Kd.R_keptB (HO272.out) hkp (fun k_ hk_ hs_ => (hk_.1.1.1.2) hs_)) (fun k_ hk_ => ⟨hk_.1.1.1.1.1.1.1.2, hk_.1.1.1.1.1.1.2, hk_.1.1.1.1.1.2, hk_.1.1.1.1.2, hk_.1.1.1.2, hk_.1.1.2, hk_.1.2⟩)); have n5_ := Aside0.mk (Kd.R_mono (ok' := fun k_ => some k_ ≠ (.slice Ao31 t258.length co31 : Value).ownBlock ∧ some k_ ≠ (.slice Ao32 t261.length co32 : Value).ownBlock ∧ some k_ ≠ (.slice Ao40 t264.length co40 : Value).ownBlock ∧ some k_ ≠ (.slice Ao36 t267.length co36 : Value).ownBlock ∧ some k_ ≠ (.slice Ao37 t270.length co37 : Value).ownBlock ∧ some k_ ≠ (.slice Ao43 t277.length co43 : Value).ownBlock ∧ some k_ ≠ (.slice Ao46 t281.length co46 : Value).ownBlock) (Kd.R_keptB (HO275.out) hkp (fun k_ hk_ hs_ => (hk_.1.1.1.2) hs_)) (fun k_ hk_ => ⟨hk_.1.1.1.1.1.1.1.2, hk_.1.1.1.1.1.1.2, hk_.1.1.1.1.1.2, hk_.1.1.1.1.2, hk_.1.1.1.2, hk_.1.1.2, hk_.1.2⟩)); have n6_ := Aside0.mk (Kd.R_mono (ok' := fun k_ => some k_ ≠ (.slice Ao31 t258.length co31 : Value).ownBlock ∧ some k_ ≠ (.slice Ao32 t261.length co32 : Value).ownBlock ∧ some k_ ≠ (.slice Ao40 t264.length co40 : Value).ownBlock ∧ some k_ ≠ (.slice Ao36 t267.length co36 : Value).ownBlock ∧ some k_ ≠ (.slice Ao37 t270.length co37 : Value).ownBlock ∧ some k_ ≠ (.slice Ao39 t273.length co39 : Value).ownBlock ∧ some k_ ≠ (.slice Ao46 t281.length co46 : Value).ownBlock) (Kd.R_keptB (HO279.out) hkp (fun k_ hk_ hs_ => (hk_.1.1.1.2) hs_)) (fun k_ hk_ => ⟨hk_.1.1.1.1.1.1.1.2, hk_.1.1.1.1.1.1.2, hk_.1.1.1.1.1.2, hk_.1.1.1.1.2, hk_.1.1.1.2, hk_.1.1.2, hk_.1.2⟩)); have n7_ := Aside0.mk (Kd.R_mono (ok' := fun k_ => some k_ ≠ (.slice Ao31 t258.length co31 : Value).ownBlock ∧ some k_ ≠ (.slice Ao32 t261.length co32 : Value).ownBlock ∧ some k_ ≠ (.slice Ao40 t264.length co40 : Value).ownBlock ∧ some k_ ≠ (.slice Ao36 t267.length co36 : Value).ownBlock ∧ some k_ ≠ (.slice Ao37 t270.length co37 : Value).ownBlock ∧ some k_ ≠ (.slice Ao39 t273.length co39 : Value).ownBlock ∧ some k_ ≠ (.slice Ao43 t277.length co43 : Value).ownBlock) (Kd.R_keptB (HO283.out) hkp (fun k_ hk_ hs_ => (hk_.1.1.1.2) hs_)) (fun k_ hk_ => ⟨hk_.1.1.1.1.1.1.1.2, hk_.1.1.1.1.1.1.2, hk_.1.1.1.1.1.2, hk_.1.1.1.1.2, hk_.1.1.1.2, hk_.1.1.2, hk_.1.2⟩)); have n8_ := Aside0.mk (hb); clear HO260; clear HO263; clear HO266; clear HO269; clear HO272; clear HO275; clear HO279; clear HO283; clear HB; have HO260 := n0_; have HO263 := n1_; have HO266 := n2_; have HO269 := n3_; have HO272 := n4_; have HO275 := n5_; have HO279 := n6_; have HO283 := n7_; have HB := n8_; clear n0_ n1_ n2_ n3_ n4_ n5_ n6_ n7_ n8_; (try clear hb); (try clear hkp); (try clear hy0)) | ((with_reducible refine gate_callee (f := 9) rfl ?_); refine goesL_ (some 55) rfl rfl Try.func9 (by kernel_rfl) rfl #[.slice Ao37 t270.length co37, .int .i64 t285] rfl zb0_7 ?_; (with_reducible refine (laws_markItemS.calls k (fun k_ => some k_ = (.slice Ao37 t270.length co37 : Value).ownBlock) (.slice Ao37 t270.length co37) t270 t285 t287 t288 w _ ?side1 ?side2 A25.out).mono ?_); (case side1 => repeat (first | (with_reducible first | exact HB.out | apply below_alloc | apply pw_below_drewN | apply below_drew1) | exact HB.out)); (case side2 => exact Kd.R_tight rfl HO272.out); rintro e w49 ⟨rfl, hy0, hb, hkp⟩; refine ⟨_, rfl, ?_⟩; have n0_ := Aside0.mk (Kd.R_mono (ok' := fun k_ => some k_ ≠ (.slice Ao32 t261.length co32 : Value).ownBlock ∧ some k_ ≠ (.slice Ao40 t264.length co40 : Value).ownBlock ∧ some k_ ≠ (.slice Ao36 t267.length co36 : Value).ownBlock ∧ some k_ ≠ (.slice Ao37 t270.length co37 : Value).ownBlock ∧ some k_ ≠ (.slice Ao39 t273.length co39 : Value).ownBlock ∧ some k_ ≠ (.slice Ao43 t277.length co43 : Value).ownBlock ∧ some k_ ≠ (.slice Ao46 t281.length co46 : Value).ownBlock) (Kd.R_keptB (HO260.out) hkp (fun k_ hk_ hs_ => (hk_.2.2.2.1) hs_)) (fun k_ hk_ => ⟨hk_.1.1, hk_.1.2.1, hk_.1.2.2.1, hk_.1.2.2.2.1, hk_.1.2.2.2.2.1, hk_.1.2.2.2.2.2.1, hk_.1.2.2.2.2.2.2⟩)); have n1_ := Aside0.mk (Kd.R_mono (ok' := fun k_ => some k_ ≠ (.slice Ao31 t258.length co31 : Value).ownBlock ∧ some k_ ≠ (.slice Ao40 t264.length co40 : Value).ownBlock ∧ some k_ ≠ (.slice Ao36 t267.length co36 : Value).ownBlock ∧ some k_ ≠ (.slice Ao37 t270.length co37 : Value).ownBlock ∧ some k_ ≠ (.slice Ao39 t273.length co39 : Value).ownBlock ∧ some k_ ≠ (.slice Ao43 t277.length co43 : Value).ownBlock ∧ some k_ ≠ (.slice Ao46 t281.length co46 : Value).ownBlock) (Kd.R_keptB (HO263.out) hkp (fun k_ hk_ hs_ => (hk_.2.2.2.1) hs_)) (fun k_ hk_ => ⟨hk_.1.1, hk_.1.2.1, hk_.1.2.2.1, hk_.1.2.2.2.1, hk_.1.2.2.2.2.1, hk_.1.2.2.2.2.2.1, hk_.1.2.2.2.2.2.2⟩)); have n2_ := Aside0.mk (Kd.R_mono (ok' := fun k_ => some k_ ≠ (.slice Ao31 t258.length co31 : Value).ownBlock ∧ some k_ ≠ (.slice Ao32 t261.length co32 : Value).ownBlock ∧ some k_ ≠ (.slice Ao36 t267.length co36 : Value).ownBlock ∧ some k_ ≠ (.slice Ao37 t270.length co37 : Value).ownBlock ∧ some k_ ≠ (.slice Ao39 t273.length co39 : Value).ownBlock ∧ some k_ ≠ (.slice Ao43 t277.length co43 : Value).ownBlock ∧ some k_ ≠ (.slice Ao46 t281.length co46 : Value).ownBlock) (Kd.R_keptB (HO266.out) hkp (fun k_ hk_ hs_ => (hk_.2.2.2.1) hs_)) (fun k_ hk_ => ⟨hk_.1.1, hk_.1.2.1, hk_.1.2.2.1, hk_.1.2.2.2.1, hk_.1.2.2.2.2.1, hk_.1.2.2.2.2.2.1, hk_.1.2.2.2.2.2.2⟩)); have n3_ := Aside0.mk (Kd.R_mono (ok' := fun k_ => some k_ ≠ (.slice Ao31 t258.length co31 : Value).ownBlock ∧ some k_ ≠ (.slice Ao32 t261.length co32 : Value).ownBlock ∧ some k_ ≠ (.slice Ao40 t264.length co40 : Value).ownBlock ∧ some k_ ≠ (.slice Ao37 t270.length co37 : Value).ownBlock ∧ some k_ ≠ (.slice Ao39 t273.length co39 : Value).ownBlock ∧ some k_ ≠ (.slice Ao43 t277.length co43 : Value).ownBlock ∧ some k_ ≠ (.slice Ao46 t281.length co46 : Value).ownBlock) (Kd.R_keptB (HO269.out) hkp (fun k_ hk_ hs_ => (hk_.1.1.1.2) hs_)) (fun k_ hk_ => ⟨hk_.1.1.1.1.1.1.1.2, hk_.1.1.1.1.1.1.2, hk_.1.1.1.1.1.2, hk_.1.1.1.1.2, hk_.1.1.1.2, hk_.1.1.2, hk_.1.2⟩)); have n4_ := Aside0.mk (Kd.R_reok rfl hy0 (fun k_ e_ => HO272.out.1 k_ e_)); have n5_ := Aside0.mk (Kd.R_mono (ok' := fun k_ => some k_ ≠ (.slice Ao31 t258.length co31 : Value).ownBlock ∧ some k_ ≠ (.slice Ao32 t261.length co32 : Value).ownBlock ∧ some k_ ≠ (.slice Ao40 t264.length co40 : Value).ownBlock ∧ some k_ ≠ (.slice Ao36 t267.length co36 : Value).ownBlock ∧ some k_ ≠ (.slice Ao37 t270.length co37 : Value).ownBlock ∧ some k_ ≠ (.slice Ao43 t277.length co43 : Value).ownBlock ∧ some k_ ≠ (.slice Ao46 t281.length co46 : Value).ownBlock) (Kd.R_keptB (HO275.out) hkp (fun k_ hk_ hs_ => (hk_.2.2.2.2.1) hs_)) (fun k_ hk_ => ⟨hk_.1.1, hk_.1.2.1, hk_.1.2.2.1, hk_.1.2.2.2.1, hk_.1.2.2.2.2.1, hk_.1.2.2.2.2.2.1, hk_.1.2.2.2.2.2.2⟩)); have n6_ := Aside0.mk (Kd.R_mono (ok' := fun k_ => some k_ ≠ (.slice Ao31 t258.length co31 : Value).ownBlock ∧ some k_ ≠ (.slice Ao32 t261.length co32 : Value).ownBlock ∧ some k_ ≠ (.slice Ao40 t264.length co40 : Value).ownBlock ∧ some k_ ≠ (.slice Ao36 t267.length co36 : Value).ownBlock ∧ some k_ ≠ (.slice Ao37 t270.length co37 : Value).ownBlock ∧ some k_ ≠ (.slice Ao39 t273.length co39 : Value).ownBlock ∧ some k_ ≠ (.slice Ao46 t281.length co46 : Value).ownBlock) (Kd.R_keptB (HO279.out) hkp (fun k_ hk_ hs_ => (hk_.2.2.2.2.1) hs_)) (fun k_ hk_ => ⟨hk_.1.1, hk_.1.2.1, hk_.1.2.2.1, hk_.1.2.2.2.1, hk_.1.2.2.2.2.1, hk_.1.2.2.2.2.2.1, hk_.1.2.2.2.2.2.2⟩)); have n7_ := Aside0.mk (Kd.R_mono (ok' := fun k_ => some k_ ≠ (.slice Ao31 t258.length co31 : Value).ownBlock ∧ some k_ ≠ (.slice Ao32 t261.length co32 : Value).ownBlock ∧ some k_ ≠ (.slice Ao40 t264.length co40 : Value).ownBlock ∧ some k_ ≠ (.slice Ao36 t267.length co36 : Value).ownBlock ∧ some k_ ≠ (.slice Ao37 t270.length co37 : Value).ownBlock ∧ some k_ ≠ (.slice Ao39 t273.length co39 : Value).ownBlock ∧ some k_ ≠ (.slice Ao43 t277.length co43 : Value).ownBlock) (Kd.R_keptB (HO283.out) hkp (fun k_ hk_ hs_ => (hk_.2.2.2.2.1) hs_)) (fun k_ hk_ => ⟨hk_.1.1, hk_.1.2.1, hk_.1.2.2.1, hk_.1.2.2.2.1, hk_.1.2.2.2.2.1, hk_.1.2.2.2.2.2.1, hk_.1.2.2.2.2.2.2⟩)); have n8_ := Aside0.mk (hb); clear HO260; clear HO263; clear HO266; clear HO269; clear HO272; clear HO275; clear HO279; clear HO283; clear HB; have HO260 := n0_; have HO263 := n1_; have HO266 := n2_; have HO269 := n3_; have HO272 := n4_; have HO275 := n5_; have HO279 := n6_; have HO283 := n7_; have HB := n8_; clear n0_ n1_ n2_ n3_ n4_ n5_ n6_ n7_ n8_; (try clear hb); (try clear hkp); (try clear hy0)))
      (try simp only [Act.put, List.setIfInBounds_toArray, List.set_cons_zero, List.set_cons_succ])
      go_cut [63] (fun v63 wc => ∃ (kq : Nat) (x63_25 : Bool), v63 = .bool x63_25 ∧ Aside0 (laws_FnExactRosterFollow.j0 kq l0 l1 t264 t273 x63_25 = some r) ∧ Aside0 (kq ≤ k) ∧ Aside0 (Kd.R k33 33 wc w.heap.size (fun k_ => some k_ ≠ ((.slice Ao39 t273.length co39) : Value).ownBlock) (.slice Ao40 t264.length co40) t264) ∧ Aside0 (Kd.R k33 33 wc w.heap.size (fun k_ => some k_ ≠ ((.slice Ao40 t264.length co40) : Value).ownBlock) (.slice Ao39 t273.length co39) t273) ∧ Aside0 (Below w.heap.size w wc))
      case first =>
       have H := HC26.out
       clear HC26
       by_cases c50 : t287 < 0
       ·
        rw [if_pos c50] at H
        have c50b0 : decide (t287 < 0) = true := decide_eq_true c50
        clear c50
        (first | rw [c50b0] | (simp only [i64_w, i32_w]; rw [c50b0]) | skip)
        have H' := Aside0.mk H
        clear H
        go_wp2
        go_meet
        case rel => exact ⟨_, (true), (by first | rfl | (simp; done) | (simp [*]; done)), H', ⟨by first | omega | exact Nat.le_refl _⟩, ⟨by (with_reducible repeat (first | apply Kd.R_alloc | apply Kd.R_drewN | apply Kd.R_drew)); exact Kd.R_mono HO266.out (fun _ hk => hk.2.2.2.2.1)⟩, ⟨by (with_reducible repeat (first | apply Kd.R_alloc | apply Kd.R_drewN | apply Kd.R_drew)); exact Kd.R_mono HO275.out (fun _ hk => hk.2.2.1)⟩, ⟨by repeat (first | (with_reducible first | exact HB.out | apply below_alloc | apply pw_below_drewN | apply below_drew1) | exact HB.out)⟩⟩
       ·
        rw [if_neg c50] at H
        have c50b0 : decide (t287 < 0) = false := decide_eq_false c50
        clear c50
        (first | rw [c50b0] | (simp only [i64_w, i32_w]; rw [c50b0]) | skip)
        replace H := Option.bind_eq_some_iff.mp H
        obtain ⟨t289, A510, H⟩ := H
        replace H : (laws_FnExactRosterFollow.j0 k l0 l1 t264 t273 (!t289)) = some r := H
        have A51 := Aside0.mk A510
        clear A510
        have H' := Aside0.mk H
        clear H
        go_wp2_with (first | (go_at_call 8; (with_reducible refine (laws_eqItemS.calls k _ _ t273 _ _ t264 t289 _ ?side1 ?side2 ?side3 ?side4 A51.out).mono ?_); (case side1 => repeat (first | exact (Kd.R_reads' HO275.out).2.2 | (with_reducible refine Kd.C_alloc ?_ _) | (with_reducible refine Kd.C_drewN ?_ _) | (with_reducible refine Kd.C_drew ?_))); (case side2 => exact (Kd.R_reads' HO275.out).2.1); (case side3 => repeat (first | exact (Kd.R_reads' HO266.out).2.2 | (with_reducible refine Kd.C_alloc ?_ _) | (with_reducible refine Kd.C_drewN ?_ _) | (with_reducible refine Kd.C_drew ?_))); (case side4 => exact (Kd.R_reads' HO266.out).2.1); rintro e w52 ⟨rfl, hb⟩; have n0_ := Aside0.mk (Kd.R_below zb2_7 hb); have n1_ := Aside0.mk (Kd.R_below zb3_7 hb); have n2_ := Aside0.mk (Kd.R_below zb4_7 hb); have n3_ := Aside0.mk (Kd.R_below zb5_7 hb); have n4_ := Aside0.mk (Kd.R_below zb6_7 hb); have n5_ := Aside0.mk (Kd.R_below zb7_7 hb); have n6_ := Aside0.mk (Kd.R_below zb8_7 hb); have n7_ := Aside0.mk (Kd.R_below (by (with_reducible repeat (first | apply Kd.R_alloc | apply Kd.R_drewN | apply Kd.R_drew)); exact HO283.out) hb); have n8_ := Aside0.mk (below_step zb1_7 hb); clear HO260; clear HO263; clear HO266; clear HO269; clear HO272; clear HO275; clear HO279; clear HO283; clear HB; have HO260 := n0_; have HO263 := n1_; have HO266 := n2_; have HO269 := n3_; have HO272 := n4_; have HO275 := n5_; have HO279 := n6_; have HO283 := n7_; have HB := n8_; clear n0_ n1_ n2_ n3_ n4_ n5_ n6_ n7_ n8_; (try clear hb); (try clear hb2); (try clear hk); (try clear hi)))
        go_meet
        case rel => exact ⟨_, (!t289), (by first | rfl | (simp; done) | (simp [*]; done)), H', ⟨by first | omega | exact Nat.le_refl _⟩, ⟨by (with_reducible repeat (first | apply Kd.R_alloc | apply Kd.R_drewN | apply Kd.R_drew)); exact Kd.R_mono HO266.out (fun _ hk => hk.2.2.2.2.1)⟩, ⟨by (with_reducible repeat (first | apply Kd.R_alloc | apply Kd.R_drewN | apply Kd.R_drew)); exact Kd.R_mono HO275.out (fun _ hk => hk.2.2.1)⟩, ⟨by repeat (first | (with_reducible first | exact HB.out | apply below_alloc | apply pw_below_drewN | apply below_drew1) | exact HB.out)⟩⟩
      case rest =>
       clear HC26
       try clear c1
       try clear c2
       try clear p2
       try clear c3
       try clear c4
       try clear c4b0
       try clear c5
       try clear c6
       try clear c7
       try clear c7b0
       try clear c8
       try clear c9
       try clear c17
       try clear c20
       try clear c23
       try clear c50
       try clear c50b0
       obtain ⟨kq, x63_25, rfl, HA, HJ25, HO_6, HO_9, HB⟩ := hcut
       cases kq with
       | zero => exact absurd HA.out (by simp [laws_FnExactRosterFollow.j0])
       | succ kj25 =>
        have H := HA.out
        clear HA
        simp only [laws_FnExactRosterFollow.j0] at H
        by_cases c53 : x63_25 = true
        ·
         subst c53
         have H1 : (some false) = some r := by rw [if_pos rfl] at H; exact H
         clear H
         have H := H1
         clear H1
         exact absurd ((Option.some.inj H).trans hrt.out) (by decide)
        ·
         replace c53 := Bool.eq_false_iff.mpr c53
         subst c53
         have H1 : ((laws_markItemS.f kj25 t273 1).bind fun bt290 => ((laws_heldItemS.f kj25 bt290.2 1).bind fun t292 => (if t292 < 0 then (some false) else (if t292 = bt290.1 then ((laws_toItemS.f kj25 l0).bind fun t293 => ((laws_toItemS.f kj25 l1).bind fun t296 => ((impl_RosterFollow.f kj25 t293 t296).bind fun t299 => ((laws_eqItemS.f kj25 t299 t264).bind fun t302 => (if t302 = true then ((laws_heldItemS.f kj25 bt290.2 1).bind fun t303 => (if t303 < 0 then (some false) else (if t303 = bt290.1 then (some true) else (some false)))) else (some false)))))) else (some false))))) = some r := by rw [if_neg (show ¬ (false = true) by decide)] at H; exact H
         clear H
         have H := H1
         clear H1
         replace H := Option.bind_eq_some_iff.mp H
         obtain ⟨⟨t290, t291⟩, A540, H⟩ := H
         replace H : ((laws_heldItemS.f kj25 t291 1).bind fun t292 => (if t292 < 0 then (some false) else (if t292 = t290 then ((laws_toItemS.f kj25 l0).bind fun t293 => ((laws_toItemS.f kj25 l1).bind fun t296 => ((impl_RosterFollow.f kj25 t293 t296).bind fun t299 => ((laws_eqItemS.f kj25 t299 t264).bind fun t302 => (if t302 = true then ((laws_heldItemS.f kj25 t291 1).bind fun t303 => (if t303 < 0 then (some false) else (if t303 = t290 then (some true) else (some false)))) else (some false)))))) else (some false)))) = some r := H
         have A54 := Aside0.mk A540
         clear A540
         replace H := Option.bind_eq_some_iff.mp H
         obtain ⟨t292, A550, H⟩ := H
         replace H : (if t292 < 0 then (some false) else (if t292 = t290 then ((laws_toItemS.f kj25 l0).bind fun t293 => ((laws_toItemS.f kj25 l1).bind fun t296 => ((impl_RosterFollow.f kj25 t293 t296).bind fun t299 => ((laws_eqItemS.f kj25 t299 t264).bind fun t302 => (if t302 = true then ((laws_heldItemS.f kj25 t291 1).bind fun t303 => (if t303 < 0 then (some false) else (if t303 = t290 then (some true) else (some false)))) else (some false)))))) else (some false))) = some r := H
         have A55 := Aside0.mk A550
         clear A550
         by_cases c56 : t292 < 0
         ·
          rw [if_pos c56] at H
          have c56b0 : decide (t292 < 0) = true := decide_eq_true c56
          clear c56
          exact absurd ((Option.some.inj H).trans hrt.out) (by decide)
         ·
          rw [if_neg c56] at H
          have c56b0 : decide (t292 < 0) = false := decide_eq_false c56
          clear c56
          by_cases c57 : t292 = t290
          ·
           rw [if_pos c57] at H
           have c57b0 : (t292 == t290) = true := beq_iff_eq.mpr c57
           have c57b1 : (t292 != t290) = false := bne_eq_false_iff_eq.mpr c57
           clear c57
           replace H := Option.bind_eq_some_iff.mp H
           obtain ⟨t293, A580, H⟩ := H
           replace H : ((laws_toItemS.f kj25 l1).bind fun t296 => ((impl_RosterFollow.f kj25 t293 t296).bind fun t299 => ((laws_eqItemS.f kj25 t299 t264).bind fun t302 => (if t302 = true then ((laws_heldItemS.f kj25 t291 1).bind fun t303 => (if t303 < 0 then (some false) else (if t303 = t290 then (some true) else (some false)))) else (some false))))) = some r := H
           have A58 := Aside0.mk A580
           clear A580
           replace H := Option.bind_eq_some_iff.mp H
           obtain ⟨t296, A590, H⟩ := H
           replace H : ((impl_RosterFollow.f kj25 t293 t296).bind fun t299 => ((laws_eqItemS.f kj25 t299 t264).bind fun t302 => (if t302 = true then ((laws_heldItemS.f kj25 t291 1).bind fun t303 => (if t303 < 0 then (some false) else (if t303 = t290 then (some true) else (some false)))) else (some false)))) = some r := H
           have A59 := Aside0.mk A590
           clear A590
           replace H := Option.bind_eq_some_iff.mp H
           obtain ⟨t299, A600, H⟩ := H
           replace H : ((laws_eqItemS.f kj25 t299 t264).bind fun t302 => (if t302 = true then ((laws_heldItemS.f kj25 t291 1).bind fun t303 => (if t303 < 0 then (some false) else (if t303 = t290 then (some true) else (some false)))) else (some false))) = some r := H
           have A60 := Aside0.mk A600
           clear A600
           replace H := Option.bind_eq_some_iff.mp H
           obtain ⟨t302, A610, H⟩ := H
           replace H : (if t302 = true then ((laws_heldItemS.f kj25 t291 1).bind fun t303 => (if t303 < 0 then (some false) else (if t303 = t290 then (some true) else (some false)))) else (some false)) = some r := H
           have A61 := Aside0.mk A610
           clear A610
           by_cases c62 : t302 = true
           ·
            subst c62
            have H1 : ((laws_heldItemS.f kj25 t291 1).bind fun t303 => (if t303 < 0 then (some false) else (if t303 = t290 then (some true) else (some false)))) = some r := by rw [if_pos rfl] at H; exact H
            clear H
            have H := H1
            clear H1
            replace H := Option.bind_eq_some_iff.mp H
            obtain ⟨t303, A630, H⟩ := H
            replace H : (if t303 < 0 then (some false) else (if t303 = t290 then (some true) else (some false))) = some r := H
            have A63 := Aside0.mk A630
            clear A630
            by_cases c64 : t303 < 0
            ·
             rw [if_pos c64] at H
             have c64b0 : decide (t303 < 0) = true := decide_eq_true c64
             clear c64
             exact absurd ((Option.some.inj H).trans hrt.out) (by decide)
            ·
             rw [if_neg c64] at H
             have c64b0 : decide (t303 < 0) = false := decide_eq_false c64
             clear c64
             by_cases c65 : t303 = t290
             ·
              rw [if_pos c65] at H
              have c65b0 : (t303 == t290) = true := beq_iff_eq.mpr c65
              have c65b1 : (t303 != t290) = false := bne_eq_false_iff_eq.mpr c65
              clear c65
              obtain rfl := Option.some.inj H
              go_wp2_with (first | ((with_reducible refine gate_callee (f := 9) rfl ?_); refine goesL_ (some 66) rfl rfl Try.func9 (by kernel_rfl) rfl #[.slice Ao39 t273.length co39, .int .i64 1] rfl zb0_7 ?_; (with_reducible refine (laws_markItemS.calls kj25 (fun k_ => some k_ = (.slice Ao39 t273.length co39 : Value).ownBlock) (.slice Ao39 t273.length co39) t273 1 t290 t291 w _ ?side1 ?side2 A54.out).mono ?_); (case side1 => repeat (first | (with_reducible first | exact HB.out | apply below_alloc | apply pw_below_drewN | apply below_drew1) | exact HB.out)); (case side2 => exact Kd.R_tight rfl HO_9.out); rintro e w66 ⟨rfl, hy0, hb, hkp⟩; refine ⟨_, rfl, ?_⟩; have n0_ := Aside0.mk (Kd.R_mono (ok' := fun k_ => some k_ ≠ (.slice Ao39 t273.length co39 : Value).ownBlock) (Kd.R_keptB (HO_6.out) hkp (fun k_ hk_ hs_ => (hk_) hs_)) (fun k_ hk_ => hk_.1)); have n1_ := Aside0.mk (Kd.R_reok rfl hy0 (fun k_ e_ => HO_9.out.1 k_ e_)); have n2_ := Aside0.mk (hb); clear HO_6; clear HO_9; clear HB; have HO_6 := n0_; have HO_9 := n1_; have HB := n2_; clear n0_ n1_ n2_; (try clear hb); (try clear hkp); (try clear hy0)) | ((with_reducible refine gate_callee (f := 10) rfl ?_); refine goesL_ (some 69) rfl rfl Try.func10 (by kernel_rfl) rfl #[.slice Ao39 t291.length co39, .int .i64 1] rfl (by (try simp only [List.map_toArray, List.map_cons, List.map_nil]); first | done | (rw [show t291.length = t273.length from (Kd.R_reads' HO_9.out).1.symm] <;> rfl) | rfl | (simp only [List.length_drop, List.length_take]; rfl)) ?_; (with_reducible refine (laws_heldItemS.calls kj25 _ _ t291 1 t292 _ ?side1 ?side2 A55.out).mono ?_); (case side1 => repeat (first | exact (Kd.R_reads' HO_9.out).2.2 | (with_reducible refine Kd.C_alloc ?_ _) | (with_reducible refine Kd.C_drewN ?_ _) | (with_reducible refine Kd.C_drew ?_))); (case side2 => rw [show t291.length = t273.length from (Kd.R_reads' HO_9.out).1.symm]; exact (Kd.R_reads' HO_9.out).2.1); rintro e w67 ⟨rfl, hb⟩; refine ⟨_, rfl, ?_⟩; have n0_ := Aside0.mk (Kd.R_below zb9_7 hb); have n1_ := Aside0.mk (Kd.R_below zb10_7 hb); have n2_ := Aside0.mk (below_step zb1_7 hb); clear HO_6; clear HO_9; clear HB; have HO_6 := n0_; have HO_9 := n1_; have HB := n2_; clear n0_ n1_ n2_; (try clear hb); (try clear hb2); (try clear hk); (try clear hi)) | ((with_reducible refine gate_callee (f := 6) rfl ?_); refine goesL_ (some 76) rfl rfl Try.func6 (by kernel_rfl) rfl #[.slice A0 l0.length c0] rfl zb0_7 ?_; (with_reducible refine (laws_toItemS.calls kj25 _ _ l0 t293 _ ?side1 ?side2 A58.out).mono ?_); (case side1 => repeat (first | exact (Kd.C_below HR0.out HB.out) | (with_reducible refine Kd.C_alloc ?_ _) | (with_reducible refine Kd.C_drewN ?_ _) | (with_reducible refine Kd.C_drew ?_))); (case side2 => exact HC0.out); rintro e w68 ⟨v294, rfl, ho0, hb⟩; refine ⟨_, rfl, ?_⟩; have n0_ := Aside0.mk (Kd.R_elder' zb9_7 (Kd.R_base ho0) hb); have n1_ := Aside0.mk (Kd.R_elder' zb10_7 (Kd.R_base ho0) hb); have n2_ := Aside0.mk (Kd.R_lower (Kd.R_new' (Kd.R_new' ho0 (Kd.R_lt zb9_7)) (Kd.R_lt zb10_7)) (below_size zb1_7)); have n3_ := Aside0.mk (below_step zb1_7 hb); clear HO_6; clear HO_9; clear HB; have HO_6 := n0_; have HO_9 := n1_; have HO295 := n2_; have HB := n3_; clear n0_ n1_ n2_ n3_; (try clear hb); (try clear hb2); (try clear hk); (try clear hi); (try clear ho0)) | ((with_reducible refine gate_callee (f := 6) rfl ?_); refine goesL_ (some 78) rfl rfl Try.func6 (by kernel_rfl) rfl #[.slice A1 l1.length c1] rfl zb0_7 ?_; (with_reducible refine (laws_toItemS.calls kj25 _ _ l1 t296 _ ?side1 ?side2 A59.out).mono ?_); (case side1 => repeat (first | exact (Kd.C_below HR1.out HB.out) | (with_reducible refine Kd.C_alloc ?_ _) | (with_reducible refine Kd.C_drewN ?_ _) | (with_reducible refine Kd.C_drew ?_))); (case side2 => exact HC1.out); rintro e w69 ⟨v297, rfl, ho0, hb⟩; refine ⟨_, rfl, ?_⟩; have n0_ := Aside0.mk (Kd.R_elder' zb9_7 (Kd.R_base ho0) hb); have n1_ := Aside0.mk (Kd.R_elder' zb10_7 (Kd.R_base ho0) hb); have n2_ := Aside0.mk (Kd.R_elder' zb11_7 (Kd.R_base ho0) hb); have n3_ := Aside0.mk (Kd.R_lower (Kd.R_new' (Kd.R_new' (Kd.R_new' ho0 (Kd.R_lt zb9_7)) (Kd.R_lt zb10_7)) (Kd.R_lt zb11_7)) (below_size zb1_7)); have n4_ := Aside0.mk (below_step zb1_7 hb); clear HO_6; clear HO_9; clear HO295; clear HB; have HO_6 := n0_; have HO_9 := n1_; have HO295 := n2_; have HO298 := n3_; have HB := n4_; clear n0_ n1_ n2_ n3_ n4_; (try clear hb); (try clear hb2); (try clear hk); (try clear hi); (try clear ho0); obtain ⟨Ao70, co70, eo70⟩ := Kd.R_slice HO295.out; subst eo70; obtain ⟨Ao71, co71, eo71⟩ := Kd.R_slice HO298.out; subst eo71) | ((with_reducible refine gate_callee (f := 7) rfl ?_); refine goesL_ (some 79) rfl rfl Try.func7 (by kernel_rfl) rfl #[.slice Ao70 t293.length co70, .slice Ao71 t296.length co71] rfl zb0_7 ?_; (with_reducible refine (impl_RosterFollow.calls kj25 _ _ t293 _ _ t296 t299 _ ?side1 ?side2 ?side3 ?side4 A60.out).mono ?_); (case side1 => repeat (first | exact (Kd.R_reads' HO295.out).2.2 | (with_reducible refine Kd.C_alloc ?_ _) | (with_reducible refine Kd.C_drewN ?_ _) | (with_reducible refine Kd.C_drew ?_))); (case side2 => exact (Kd.R_reads' HO295.out).2.1); (case side3 => repeat (first | exact (Kd.R_reads' HO298.out).2.2 | (with_reducible refine Kd.C_alloc ?_ _) | (with_reducible refine Kd.C_drewN ?_ _) | (with_reducible refine Kd.C_drew ?_))); (case side4 => exact (Kd.R_reads' HO298.out).2.1); rintro e w72 ⟨v300, rfl, ho0, hb⟩; refine ⟨_, rfl, ?_⟩; have n0_ := Aside0.mk (Kd.R_elder' zb9_7 (Kd.R_base ho0) hb); have n1_ := Aside0.mk (Kd.R_elder' zb10_7 (Kd.R_base ho0) hb); have n2_ := Aside0.mk (Kd.R_elder' zb11_7 (Kd.R_base ho0) hb); have n3_ := Aside0.mk (Kd.R_elder' zb12_7 (Kd.R_base ho0) hb); have n4_ := Aside0.mk (Kd.R_lower (Kd.R_new' (Kd.R_new' (Kd.R_new' (Kd.R_new' ho0 (Kd.R_lt zb9_7)) (Kd.R_lt zb10_7)) (Kd.R_lt zb11_7)) (Kd.R_lt zb12_7)) (below_size zb1_7)); have n5_ := Aside0.mk (below_step zb1_7 hb); clear HO_6; clear HO_9; clear HO295; clear HO298; clear HB; have HO_6 := n0_; have HO_9 := n1_; have HO295 := n2_; have HO298 := n3_; have HO301 := n4_; have HB := n5_; clear n0_ n1_ n2_ n3_ n4_ n5_; (try clear hb); (try clear hb2); (try clear hk); (try clear hi); (try clear ho0); obtain ⟨Ao73, co73, eo73⟩ := Kd.R_slice HO301.out; subst eo73) | ((with_reducible refine gate_callee (f := 8) rfl ?_); refine goesL_ (some 82) rfl rfl Try.func8 (by kernel_rfl) rfl #[.slice Ao73 t299.length co73, .slice Ao40 t264.length co40] rfl zb0_7 ?_; (with_reducible refine (laws_eqItemS.calls kj25 _ _ t299 _ _ t264 true _ ?side1 ?side2 ?side3 ?side4 A61.out).mono ?_); (case side1 => repeat (first | exact (Kd.R_reads' HO301.out).2.2 | (with_reducible refine Kd.C_alloc ?_ _) | (with_reducible refine Kd.C_drewN ?_ _) | (with_reducible refine Kd.C_drew ?_))); (case side2 => exact (Kd.R_reads' HO301.out).2.1); (case side3 => repeat (first | exact (Kd.R_reads' HO_6.out).2.2 | (with_reducible refine Kd.C_alloc ?_ _) | (with_reducible refine Kd.C_drewN ?_ _) | (with_reducible refine Kd.C_drew ?_))); (case side4 => exact (Kd.R_reads' HO_6.out).2.1); rintro e w74 ⟨rfl, hb⟩; refine ⟨_, rfl, ?_⟩; have n0_ := Aside0.mk (Kd.R_below zb9_7 hb); have n1_ := Aside0.mk (Kd.R_below zb10_7 hb); have n2_ := Aside0.mk (Kd.R_below zb11_7 hb); have n3_ := Aside0.mk (Kd.R_below zb12_7 hb); have n4_ := Aside0.mk (Kd.R_below (by (with_reducible repeat (first | apply Kd.R_alloc | apply Kd.R_drewN | apply Kd.R_drew)); exact HO301.out) hb); have n5_ := Aside0.mk (below_step zb1_7 hb); clear HO_6; clear HO_9; clear HO295; clear HO298; clear HO301; clear HB; have HO_6 := n0_; have HO_9 := n1_; have HO295 := n2_; have HO298 := n3_; have HO301 := n4_; have HB := n5_; clear n0_ n1_ n2_ n3_ n4_ n5_; (try clear hb); (try clear hb2); (try clear hk); (try clear hi)) | ((with_reducible refine gate_callee (f := 10) rfl ?_); refine goesL_ (some 86) rfl rfl Try.func10 (by kernel_rfl) rfl #[.slice Ao39 t291.length co39, .int .i64 1] rfl (by (try simp only [List.map_toArray, List.map_cons, List.map_nil]); first | done | (rw [show t291.length = t273.length from (Kd.R_reads' HO_9.out).1.symm] <;> rfl) | rfl | (simp only [List.length_drop, List.length_take]; rfl)) ?_; (with_reducible refine (laws_heldItemS.calls kj25 _ _ t291 1 t303 _ ?side1 ?side2 A63.out).mono ?_); (case side1 => repeat (first | exact (Kd.R_reads' HO_9.out).2.2 | (with_reducible refine Kd.C_alloc ?_ _) | (with_reducible refine Kd.C_drewN ?_ _) | (with_reducible refine Kd.C_drew ?_))); (case side2 => rw [show t291.length = t273.length from (Kd.R_reads' HO_9.out).1.symm]; exact (Kd.R_reads' HO_9.out).2.1); rintro e w75 ⟨rfl, hb⟩; refine ⟨_, rfl, ?_⟩; have n0_ := Aside0.mk (Kd.R_below zb9_7 hb); have n1_ := Aside0.mk (Kd.R_below zb10_7 hb); have n2_ := Aside0.mk (Kd.R_below zb11_7 hb); have n3_ := Aside0.mk (Kd.R_below zb12_7 hb); have n4_ := Aside0.mk (Kd.R_below (by (with_reducible repeat (first | apply Kd.R_alloc | apply Kd.R_drewN | apply Kd.R_drew)); exact HO301.out) hb); have n5_ := Aside0.mk (below_step zb1_7 hb); clear HO_6; clear HO_9; clear HO295; clear HO298; clear HO301; clear HB; have HO_6 := n0_; have HO_9 := n1_; have HO295 := n2_; have HO298 := n3_; have HO301 := n4_; have HB := n5_; clear n0_ n1_ n2_ n3_ n4_ n5_; (try clear hb); (try clear hb2); (try clear hk); (try clear hi)))
              go_ret
              exact ⟨by first | rfl | (simp [errW_none, errW_some] <;> rfl) | (simp [*, errW_none, errW_some] <;> rfl), by repeat (first | (with_reducible first | exact HB.out | apply below_alloc | apply pw_below_drewN | apply below_drew1) | exact HB.out)⟩
             ·
              rw [if_neg c65] at H
              have c65b0 : (t303 == t290) = false := beq_eq_false_iff_ne.mpr c65
              have c65b1 : (t303 != t290) = true := bne_iff_ne.mpr c65
              exact absurd ((Option.some.inj H).trans hrt.out) (by decide)
           ·
            replace c62 := Bool.eq_false_iff.mpr c62
            subst c62
            have H1 : (some false) = some r := by rw [if_neg (show ¬ (false = true) by decide)] at H; exact H
            clear H
            have H := H1
            clear H1
            exact absurd ((Option.some.inj H).trans hrt.out) (by decide)
          ·
           rw [if_neg c57] at H
           have c57b0 : (t292 == t290) = false := beq_eq_false_iff_ne.mpr c57
           have c57b1 : (t292 != t290) = true := bne_iff_ne.mpr c57
           exact absurd ((Option.some.inj H).trans hrt.out) (by decide)
     ·
      replace c23 := Bool.eq_false_iff.mpr c23
      subst c23
      have H1 : (some false) = some r := by rw [if_neg (show ¬ (false = true) by decide)] at H; exact H
      clear H
      have H := H1
      clear H1
      exact absurd ((Option.some.inj H).trans hrt.out) (by decide)
    ·
     replace c20 := Bool.eq_false_iff.mpr c20
     subst c20
     have H1 : (some false) = some r := by rw [if_neg (show ¬ (false = true) by decide)] at H; exact H
     clear H
     have H := H1
     clear H1
     exact absurd ((Option.some.inj H).trans hrt.out) (by decide)
   ·
    replace c17 := Bool.eq_false_iff.mpr c17
    subst c17
    have H1 : (some false) = some r := by rw [if_neg (show ¬ (false = true) by decide)] at H; exact H
    clear H
    have H := H1
    clear H1
    exact absurd ((Option.some.inj H).trans hrt.out) (by decide)

end Go.Proofs.Ytgfmapilimlamaa.QFnExactRosterFollow
