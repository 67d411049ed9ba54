-- laid by this session's own runner (wip/print2.py): not a printed file
import Derived.Laws.Cover1
import Derived.Test.YtgfmapilimlamaaQFnExactRosterFollowx0
import Derived.Test.YtgfmapilimlamaaQFnExactRosterFollowx3
namespace Go.Proofs.Ytgfmapilimlamaa.QFnExactRosterFollow
open Go.RowKit Go.Proofs.YtgfmapilimlamaaW.PrintWords Go.Proofs.YtgfmapilimlamaaW.PrintLast Go.Proofs.YtgfmapilimlamaaW.PrintMore
attribute [local go_sem] max2_int min2_int max_two min_two max_three min_three max_four min_four   -- for this text's walks alone
set_option linter.unusedVariables false
set_option linter.unusedSimpArgs false

theorem bcq_4 {w : World} {g t : Nat} {cs : Array Value} {v : Value} (h : w.heap[g]? = some (.cells cs t (0, 0))) (j : Nat) (e : cs[j]? = some v := by rfl) : w.cell? ⟨g, j, none⟩ = some v := (blk_cell h j).trans e
theorem zb0_4 {P : Prop} (h : P := by first | rfl | (simp; done) | (simp [*]; done)) : P := h
theorem zb1_4 {P : Prop} (h : P := by first | (with_reducible assumption) | assumption) : P := h
theorem zb2_4 {P : Prop} (h : P := by repeat (first | (with_reducible first | exact HB.out | apply below_alloc | apply pw_below_drewN | apply below_drew1) | exact HB.out)) : P := h
theorem zb3_4 {P : Prop} (h : P := by rw [hg]; exact (below_size (by repeat (first | (with_reducible first | exact HB.out | apply below_alloc | apply pw_below_drewN | apply below_drew1) | exact HB.out)))) : P := h
theorem zb4_4 {P : Prop} (h : P := by have := World.block_lt_of_cell? _ _ hx218_0; first | rwa [add_block] at this | exact this) : P := h
theorem zb5_4 {P : Prop} (h : P := by first | (rw [add_block]; exact hn218_0) | (show (Addr.add _ _).block ≠ _; rw [add_block]; exact hn218_0) | exact hn218_0) : P := h
theorem zb6_4 {P : Prop} (h : P := by first | (rw [add_block]; exact hn218_1) | (show (Addr.add _ _).block ≠ _; rw [add_block]; exact hn218_1) | exact hn218_1) : P := h
theorem zb7_4 {P : Prop} (h : P := by first | (rw [add_block]; exact hn218_2) | (show (Addr.add _ _).block ≠ _; rw [add_block]; exact hn218_2) | exact hn218_2) : P := h
theorem zb8_4 {P : Prop} (h : P := by first | (rw [add_block]; exact hn218_3) | (show (Addr.add _ _).block ≠ _; rw [add_block]; exact hn218_3) | exact hn218_3) : P := h
theorem zb9_4 {P : Prop} (h : P := by first | (rw [add_block]; exact hn218_4) | (show (Addr.add _ _).block ≠ _; rw [add_block]; exact hn218_4) | exact hn218_4) : P := h
theorem zb10_4 {P : Prop} (h : P := by (with_reducible repeat (first | apply Kd.R_alloc | apply Kd.R_drewN | apply Kd.R_drew)); exact HO_7.out) : P := h
theorem zb11_4 {P : Prop} (h : P := by (with_reducible repeat (first | apply Kd.R_alloc | apply Kd.R_drewN | apply Kd.R_drew)); exact (Kd.R_mono (Kd.R_far (p := ⟨gb223, 4, none⟩) (Kd.R_far (p := ⟨gb223, 3, none⟩) (Kd.R_far (p := ⟨gb223, 2, none⟩) (Kd.R_far (p := ⟨gb223, 1, none⟩) (Kd.R_far (p := ⟨gb223, 0, none⟩) (Kd.R_mono HO_7.out (fun k_ hk => (⟨hk, hk.2⟩ : _ ∧ k_ ≠ gb223))) (fun _ hk => hk.2) (.string ((rd_T33 l1 x49_3).f0))) (fun _ hk => hk.2) (.string ((rd_T33 l1 x49_3).f1))) (fun _ hk => hk.2) (.string ((rd_T33 l1 x49_3).f2))) (fun _ hk => hk.2) (.int .i64 ((rd_T33 l1 x49_3).f3))) (fun _ hk => hk.2) (.bool true)) (fun _ h_ => h_.1))) : P := h
theorem zb12_4 {P : Prop} (h : P := by (with_reducible repeat (first | refine blk_drewN ?_ _ | refine blk_drew ?_ | refine blk_alloc ?_ _)); refine blk_put (cs := #[.string ((rd_T33 l1 x49_3).f0), .string ((rd_T33 l1 x49_3).f1), .string ((rd_T33 l1 x49_3).f2), .int .i64 ((rd_T33 l1 x49_3).f3), .bool false]) ?_ 4 _ rfl; (with_reducible repeat (first | refine blk_drewN ?_ _ | refine blk_drew ?_ | refine blk_alloc ?_ _)); refine blk_put (cs := #[.string ((rd_T33 l1 x49_3).f0), .string ((rd_T33 l1 x49_3).f1), .string ((rd_T33 l1 x49_3).f2), .int .i64 0, .bool false]) ?_ 3 _ rfl; (with_reducible repeat (first | refine blk_drewN ?_ _ | refine blk_drew ?_ | refine blk_alloc ?_ _)); refine blk_put (cs := #[.string ((rd_T33 l1 x49_3).f0), .string ((rd_T33 l1 x49_3).f1), .string (⟨#[]⟩ : ByteArray), .int .i64 0, .bool false]) ?_ 2 _ rfl; (with_reducible repeat (first | refine blk_drewN ?_ _ | refine blk_drew ?_ | refine blk_alloc ?_ _)); refine blk_put (cs := #[.string ((rd_T33 l1 x49_3).f0), .string (⟨#[]⟩ : ByteArray), .string (⟨#[]⟩ : ByteArray), .int .i64 0, .bool false]) ?_ 1 _ rfl; (with_reducible repeat (first | refine blk_drewN ?_ _ | refine blk_drew ?_ | refine blk_alloc ?_ _)); refine blk_put (cs := #[.string (⟨#[]⟩ : ByteArray), .string (⟨#[]⟩ : ByteArray), .string (⟨#[]⟩ : ByteArray), .int .i64 0, .bool false]) ?_ 0 _ rfl; (with_reducible repeat (first | refine blk_drewN ?_ _ | refine blk_drew ?_ | refine blk_alloc ?_ _)); exact BK223.out) : P := h
theorem zb13_4 {P : Prop} (h : P := by repeat (first | (with_reducible first | exact HB.out | apply below_alloc | apply pw_below_drewN | apply below_drew1 | refine below_set ?_ GE223.out) | exact HB.out)) : P := h
theorem zb14_4 {P : Prop} (h : P := by (with_reducible repeat (first | refine blk_drewN ?_ _ | refine blk_drew ?_ | refine blk_alloc ?_ _)); exact BK223.out) : P := h
theorem zb15_4 {P : Prop} (h : P := by (with_reducible repeat (first | apply Kd.R_alloc | apply Kd.R_drewN | apply Kd.R_drew)); exact (Kd.R_mono (Kd.R_far (p := ⟨gb223, 4, none⟩) (Kd.R_far (p := ⟨gb223, 3, none⟩) (Kd.R_far (p := ⟨gb223, 2, none⟩) (Kd.R_far (p := ⟨gb223, 1, none⟩) (Kd.R_far (p := ⟨gb223, 0, none⟩) (Kd.R_mono HO_7.out (fun k_ hk => (⟨hk, hk.2⟩ : _ ∧ k_ ≠ gb223))) (fun _ hk => hk.2) (.string ((rd_T33 l1 x49_3).f0))) (fun _ hk => hk.2) (.string ((rd_T33 l1 x49_3).f1))) (fun _ hk => hk.2) (.string ((rd_T33 l1 x49_3).f2))) (fun _ hk => hk.2) (.int .i64 ((rd_T33 l1 x49_3).f3))) (fun _ hk => hk.2) (.bool false)) (fun _ h_ => h_.1))) : P := h
theorem zb16_4 {P : Prop} (h : P := by (with_reducible repeat (first | refine blk_drewN ?_ _ | refine blk_drew ?_ | refine blk_alloc ?_ _)); exact BK232.out) : P := h
theorem zb17_4 {P : Prop} (h : P := by repeat (first | (with_reducible first | exact HB.out | apply below_alloc | apply pw_below_drewN | apply below_drew1 | refine below_set ?_ GE232.out) | exact HB.out)) : P := h
theorem zb18_4 {P : Prop} (h : P := by rw [hg]; exact (below_size (by repeat (first | (with_reducible first | exact HB.out | apply below_alloc | apply pw_below_drewN | apply below_drew1 | refine below_set ?_ GE232.out) | exact HB.out)))) : P := h
theorem zb19_4 {P : Prop} (h : P := by rw [hg]; exact Nat.ne_of_lt (blk_lt (g := gb232) (o := .cells #[.string a0_0, .string a0_1, .string a0_2, .int .i64 a0_3, .bool a0_4] 33 (0, 0)) (by (with_reducible repeat (first | refine blk_drewN ?_ _ | refine blk_drew ?_ | refine blk_alloc ?_ _)); exact BK232.out))) : P := h
theorem zb20_4 {P : Prop} (h : P := by rw [hg]; exact Nat.ne_of_gt (blk_lt (g := gb232) (o := .cells #[.string a0_0, .string a0_1, .string a0_2, .int .i64 a0_3, .bool a0_4] 33 (0, 0)) (by (with_reducible repeat (first | refine blk_drewN ?_ _ | refine blk_drew ?_ | refine blk_alloc ?_ _)); exact BK232.out))) : P := h
/-! ### impl_RosterFollow: function 7 -/
mutual
def impl_RosterFollow.j0 : Nat → List (S33) → List (S33) → Bool → Option ((List (S33)))
 | 0, _, _, _ => none
 | k + 1, x0, x1, x19 => if x19 = true then (some ([] : List (S33))) else (impl_RosterFollow.l0 k x0 x1 x0 (x0.length : Int) 0)
def impl_RosterFollow.l0 : Nat → List (S33) → List (S33) → List (S33) → Int → Int → Option ((List (S33)))
 | 0, _, _, _, _, _ => none
 | k + 1, x0, x1, x20, x21, x22 => if x22 < x21 then (if 0 ≤ x22 then (if x22 < (x20.length : Int) then (if (rd_T33 x20 x22).f4 = true then (some ([] : List (S33))) else (if x22 > 0 then (if 0 ≤ (wrap64 (x22 - 1)) then (if (wrap64 (x22 - 1)) < (x0.length : Int) then (if ((Op.bytesLess (((rd_T33 x0 (wrap64 (x22 - 1))).f0).toList) (((rd_T33 x20 x22).f0).toList)) = true) then (impl_RosterFollow.l0 k x0 x1 x20 x21 (wrap64 (x22 + 1))) else (some ([] : List (S33)))) else (none)) else (none)) else (impl_RosterFollow.l0 k x0 x1 x20 x21 (wrap64 (x22 + 1))))) else (none)) else (none)) else ((impl_Item_15.f x0).bind fun t219 => (impl_RosterFollow.l1 k t219 x1 (x1.length : Int) 0))
def impl_RosterFollow.l1 : Nat → List (S33) → List (S33) → Int → Int → Option ((List (S33)))
 | 0, _, _, _, _ => none
 | k + 1, x7, x47, x48, x49 => if x49 < x48 then (if 0 ≤ x49 then (if x49 < (x47.length : Int) then (if ((rd_T33 x47 x49).f4 = true) then ((impl_itemAt.f x7 ((rd_T33 x47 x49).f0)).bind fun bt224 => (if bt224.2 = true then ((impl_Item_18.f x7 bt224.1 (wrap64 (bt224.1 + 1))).bind fun t226 => (impl_RosterFollow.l1 k t226 x47 x48 (wrap64 (x49 + 1)))) else (impl_RosterFollow.l1 k x7 x47 x48 (wrap64 (x49 + 1))))) else ((impl_placed.f x7 ((rd_T33 x47 x49).f0) ((rd_T33 x47 x49).f1) ((rd_T33 x47 x49).f2) ((rd_T33 x47 x49).f3) ((rd_T33 x47 x49).f4)).bind fun t229 => (impl_RosterFollow.l1 k t229 x47 x48 (wrap64 (x49 + 1))))) else (none)) else (none)) else (some x7)
end
def impl_RosterFollow.f (k : Nat) (l0 : List (S33)) (l1 : List (S33)) : Option ((List (S33))) := if (l0.length : Int) > 400 then (impl_RosterFollow.j0 k l0 l1 true) else (impl_RosterFollow.j0 k l0 l1 (decide ((l1.length : Int) > 400)))
theorem impl_RosterFollow.mono_l : ∀ k, (∀ y0 y1 y2, LeO (impl_RosterFollow.j0 k y0 y1 y2) (impl_RosterFollow.j0 (k + 1) y0 y1 y2)) ∧ (∀ y0 y1 y2 y3 y4, LeO (impl_RosterFollow.l0 k y0 y1 y2 y3 y4) (impl_RosterFollow.l0 (k + 1) y0 y1 y2 y3 y4)) ∧ (∀ y0 y1 y2 y3, LeO (impl_RosterFollow.l1 k y0 y1 y2 y3) (impl_RosterFollow.l1 (k + 1) y0 y1 y2 y3))
 | 0 => ⟨fun _ _ _ r h => by simp [impl_RosterFollow.j0] at h, fun _ _ _ _ _ r h => by simp [impl_RosterFollow.l0] at h, fun _ _ _ _ r h => by simp [impl_RosterFollow.l1] at h⟩
 | k + 1 => by
  obtain ⟨ih0, ih1, ih2⟩ := impl_RosterFollow.mono_l k
  refine ⟨?_, ?_, ?_⟩
  ·
   intro y0 y1 y2
   unfold impl_RosterFollow.j0
   repeat' first
   | (with_reducible exact ih0 _ _ _)
   | (with_reducible exact ih1 _ _ _ _ _)
   | (with_reducible exact ih2 _ _ _ _)
   | (with_reducible exact LeO.refl _)
   | (with_reducible exact LeO.none _)
   | (with_reducible refine LeO.ite ?_ ?_)
   | (with_reducible refine LeO.bind ?_ (fun _ => ?_))
   | exact ih0 _ _ _
   | exact ih1 _ _ _ _ _
   | exact ih2 _ _ _ _
   | exact LeO.none _
   | refine LeO.ite ?_ ?_
   | refine LeO.bind ?_ (fun _ => ?_)
  ·
   intro y0 y1 y2 y3 y4
   unfold impl_RosterFollow.l0
   repeat' first
   | (with_reducible exact ih0 _ _ _)
   | (with_reducible exact ih1 _ _ _ _ _)
   | (with_reducible exact ih2 _ _ _ _)
   | (with_reducible exact LeO.refl _)
   | (with_reducible exact LeO.none _)
   | (with_reducible refine LeO.ite ?_ ?_)
   | (with_reducible refine LeO.bind ?_ (fun _ => ?_))
   | exact ih0 _ _ _
   | exact ih1 _ _ _ _ _
   | exact ih2 _ _ _ _
   | exact LeO.none _
   | refine LeO.ite ?_ ?_
   | refine LeO.bind ?_ (fun _ => ?_)
  ·
   intro y0 y1 y2 y3
   unfold impl_RosterFollow.l1
   repeat' first
   | (with_reducible exact ih0 _ _ _)
   | (with_reducible exact ih1 _ _ _ _ _)
   | (with_reducible exact ih2 _ _ _ _)
   | (with_reducible exact LeO.refl _)
   | (with_reducible exact LeO.none _)
   | (with_reducible refine LeO.ite ?_ ?_)
   | (with_reducible refine LeO.bind ?_ (fun _ => ?_))
   | exact ih0 _ _ _
   | exact ih1 _ _ _ _ _
   | exact ih2 _ _ _ _
   | exact LeO.none _
   | refine LeO.ite ?_ ?_
   | refine LeO.bind ?_ (fun _ => ?_)
theorem impl_RosterFollow.mono : ∀ a0 a1 k, LeO (impl_RosterFollow.f k a0 a1) (impl_RosterFollow.f (k + 1) a0 a1) := by
 intro a0 a1 k
 obtain ⟨ih0, ih1, ih2⟩ := impl_RosterFollow.mono_l k
 unfold impl_RosterFollow.f
 repeat' first
   | (with_reducible exact ih0 _ _ _)
   | (with_reducible exact ih1 _ _ _ _ _)
   | (with_reducible exact ih2 _ _ _ _)
   | (with_reducible exact LeO.refl _)
   | (with_reducible exact LeO.none _)
   | (with_reducible refine LeO.ite ?_ ?_)
   | (with_reducible refine LeO.bind ?_ (fun _ => ?_))
   | exact ih0 _ _ _
   | exact ih1 _ _ _ _ _
   | exact ih2 _ _ _ _
   | exact LeO.none _
   | refine LeO.ite ?_ ?_
   | refine LeO.bind ?_ (fun _ => ?_)
set_option maxHeartbeats 400000000 in
set_option maxRecDepth 100000 in
theorem impl_RosterFollow.calls (k : Nat) (A0 : Option Addr) (c0 : Nat) (l0 : List (S33)) (A1 : Option Addr) (c1 : Nat) (l1 : List (S33)) (r : List (S33)) (w : World) (hr0 : Kd.C k33 w A0 l0.length l0) (hc0 : l0.length ≤ c0) (hr1 : Kd.C k33 w A1 l1.length l1) (hc1 : l1.length ≤ c1) (h : impl_RosterFollow.f k l0 l1 = some r) :
  Calls Try.prog 7 #[.slice A0 l0.length c0, .slice A1 l1.length c1] w fun e w' => ∃ v0_ : Value, e = .returned (v0_) ∧ Kd.R k33 33 w' w.heap.size (fun _ => True) v0_ r ∧ Below w.heap.size w w' := by
 have hu33 := Try.underlying33
 have HR0 := Aside0.mk hr0
 have HC0 := Aside0.mk hc0
 clear hr0 hc0
 have HR1 := Aside0.mk hr1
 have HC1 := Aside0.mk hc1
 clear hr1 hc1
 have HB := Aside0.mk (Below.refl w.heap.size w)
 have H : (if (l0.length : Int) > 400 then (impl_RosterFollow.j0 k l0 l1 true) else (impl_RosterFollow.j0 k l0 l1 (decide ((l1.length : Int) > 400)))) = some r := h
 clear h
 have HC3 := Aside0.mk H
 clear H
 go_enter Try.func7, Try.ntmps7
 go_upto_region 1 with (fail)
 repeat (go_quiet (fail); go_upto_region 1 with (fail))
 go_cut [19] (fun v19 wc => ∃ (kq : Nat) (x19_2 : Bool), v19 = .bool x19_2 ∧ Aside0 (impl_RosterFollow.j0 kq l0 l1 x19_2 = some r) ∧ Aside0 (kq ≤ k) ∧ Aside0 (Below w.heap.size w wc))
 case first =>
  have H := HC3.out
  clear HC3
  by_cases c4 : (l0.length : Int) > 400
  ·
   rw [if_pos c4] at H
   have c4b0 : decide (400 < (l0.length : Int)) = true := decide_eq_true c4
   have c4b1 : decide (400 < l0.length) = true := decide_eq_true (by omega)
   clear c4
   (first | rw [c4b0] | (simp only [i64_w, i32_w]; rw [c4b0]) | skip)
   have H' := Aside0.mk H
   clear H
   go_wp2
   repeat (go_quiet (fail); try go_wp2)
   go_meet
   case rel => exact ⟨_, (true), zb0_4, H', ⟨by first | omega | exact Nat.le_refl _⟩, ⟨by repeat (first | (with_reducible first | exact HB.out | apply below_alloc | apply pw_below_drewN | apply below_drew1) | exact HB.out)⟩⟩
  ·
   rw [if_neg c4] at H
   have c4b0 : decide (400 < (l0.length : Int)) = false := decide_eq_false c4
   have c4b1 : decide (400 < l0.length) = false := decide_eq_false (by omega)
   clear c4
   (first | rw [c4b0] | (simp only [i64_w, i32_w]; rw [c4b0]) | skip)
   have H' := Aside0.mk H
   clear H
   go_wp2
   repeat (go_quiet (fail); try go_wp2)
   go_meet
   case rel => exact ⟨_, (decide ((l1.length : Int) > 400)), zb0_4, H', ⟨by first | omega | exact Nat.le_refl _⟩, ⟨by repeat (first | (with_reducible first | exact HB.out | apply below_alloc | apply pw_below_drewN | apply below_drew1) | exact HB.out)⟩⟩
 case rest =>
  clear HC3
  try clear c1
  try clear p2
  try clear c4
  try clear c4b0
  try clear c4b1
  obtain ⟨kq, x19_2, rfl, HA, HJ2, HB⟩ := hcut
  cases kq with
  | zero => exact absurd HA.out (by simp [impl_RosterFollow.j0])
  | succ kj2 =>
   have H := HA.out
   clear HA
   simp only [impl_RosterFollow.j0] at H
   by_cases c5 : x19_2 = true
   ·
    subst c5
    have H1 : (some ([] : List (S33))) = some r := by rw [if_pos rfl] at H; exact H
    clear H
    have H := H1
    clear H1
    obtain rfl := Option.some.inj H
    go_wp2
    repeat (go_quiet (fail); try go_wp2)
    go_ret
    exact ⟨_, by first | rfl | (simp [errW_none, errW_some] <;> rfl) | (simp [*, errW_none, errW_some] <;> rfl), by first | exact Kd.R_nil _ _ _ _ _ | exact Kd.N_nil _ _ _ _ _ | exact Kd.V_nil _ _ _ _ _ | exact Kd.Q_nil _ _ _ _ _ | exact Kd.S_nil _ _ _ _ _, by repeat (first | (with_reducible first | exact HB.out | apply below_alloc | apply pw_below_drewN | apply below_drew1) | exact HB.out)⟩
   ·
    replace c5 := Bool.eq_false_iff.mpr c5
    subst c5
    have H1 : (impl_RosterFollow.l0 kj2 l0 l1 l0 (l0.length : Int) 0) = some r := by rw [if_neg (show ¬ (false = true) by decide)] at H; exact H
    clear H
    have H := H1
    clear H1
    have H' := Aside0.mk H
    clear H
    go_wp2
    repeat (go_quiet (fail); try go_wp2)
    go_loopg [22] kj2 (fun kq v22 w' => ∃ (x22_2 : Int), v22 = .int .i64 x22_2 ∧ Aside0 (impl_RosterFollow.l0 kq l0 l1 l0 (l0.length : Int) x22_2 = some r) ∧ Aside0 (kq ≤ kj2) ∧ Aside0 (Below w.heap.size w w'))
    case atStart => exact ⟨(0), zb0_4, H', ⟨Nat.le_refl _⟩, ⟨by repeat (first | (with_reducible first | exact HB.out | apply below_alloc | apply pw_below_drewN | apply below_drew1) | exact HB.out)⟩⟩
    case round =>
     clear H'
     try clear c1
     try clear p2
     try clear c4
     try clear c4b0
     try clear c4b1
     try clear c5
     try clear p2
     obtain ⟨x22_2, rfl, HA, HK2, HB⟩ := hrel
     cases gk with
     | zero => exact absurd HA.out (by simp [impl_RosterFollow.l0])
     | succ k2 =>
      have H := HA.out
      clear HA
      simp only [impl_RosterFollow.l0] at H
      by_cases c6 : x22_2 < (l0.length : Int)
      ·
       rw [if_pos c6] at H
       have c6b0 : decide (x22_2 < (l0.length : Int)) = true := decide_eq_true c6
       clear c6
       by_cases c7 : 0 ≤ x22_2
       ·
        rw [if_pos c7] at H
        have c7b0 : decide (0 ≤ x22_2) = true := decide_eq_true c7
        clear c7
        by_cases c8 : x22_2 < (l0.length : Int)
        ·
         rw [if_pos c8] at H
         have c8b0 : decide (x22_2 < (l0.length : Int)) = true := decide_eq_true c8
         clear c8
         obtain ⟨bq9, hbq9⟩ : ∃ b_ : Bool, b_ = ((rd_T33 l0 x22_2).f4) := ⟨_, rfl⟩
         replace H : (if bq9 = true then (some ([] : List (S33))) else (if x22_2 > 0 then (if 0 ≤ (wrap64 (x22_2 - 1)) then (if (wrap64 (x22_2 - 1)) < (l0.length : Int) then (if ((Op.bytesLess (((rd_T33 l0 (wrap64 (x22_2 - 1))).f0).toList) (((rd_T33 l0 x22_2).f0).toList)) = true) then (impl_RosterFollow.l0 k2 l0 l1 l0 (l0.length : Int) (wrap64 (x22_2 + 1))) else (some ([] : List (S33)))) else (none)) else (none)) else (impl_RosterFollow.l0 k2 l0 l1 l0 (l0.length : Int) (wrap64 (x22_2 + 1))))) = some r := by rw [← hbq9] at H; exact H
         have Nbq9 := Aside0.mk hbq9
         clear hbq9
         by_cases c10 : bq9 = true
         ·
          subst c10
          have H1 : (some ([] : List (S33))) = some r := by rw [if_pos rfl] at H; exact H
          clear H
          have H := H1
          clear H1
          obtain rfl := Option.some.inj H
          have p216 : 0 ≤ (x22_2 : Int) := of_decide_eq_true zb1_4
          have q216 : x22_2 < (l0.length : Int) := of_decide_eq_true zb1_4
          obtain ⟨ad216, e216, hx216_0, hx216_1, hx216_2, hx216_3, hx216_4⟩ := at_T33 HR0.out x22_2 p216 q216
          (try rw [← Nbq9.out] at hx216_4)
          (try rw [← Nbq9.out] at hw216_4)
          cases e216
          replace hx216_0 := (HB.out.cell (World.block_lt_of_cell? w _ hx216_0)).trans hx216_0
          replace hx216_1 := (HB.out.cell (World.block_lt_of_cell? w _ hx216_1)).trans hx216_1
          replace hx216_2 := (HB.out.cell (World.block_lt_of_cell? w _ hx216_2)).trans hx216_2
          replace hx216_3 := (HB.out.cell (World.block_lt_of_cell? w _ hx216_3)).trans hx216_3
          replace hx216_4 := (HB.out.cell (World.block_lt_of_cell? w _ hx216_4)).trans hx216_4
          replace p216 := eq_true p216
          replace q216 := eq_true q216
          go_wp2_with (first | ((with_reducible refine gate_dst (N := 6) rfl ?_); (try (refine gate_guard (by rfl) ?_; dsimp only)); refine box_event ?hg (N := 6) ?hd (cs := #[.string (⟨#[]⟩ : ByteArray), .string (⟨#[]⟩ : ByteArray), .string (⟨#[]⟩ : ByteArray), .int .i64 0, .bool false]) (t := 33) ?hr ?_; (case hd => rfl); (case hg => rfl); (case hr => first | (go_simp; done) | (go_simp; rfl)); intro gb217 hg w11 hbox hb; have n0_ := Aside0.mk (below_step zb2_4 hb); have n1_ := Aside0.mk (hbox); have n2_ := Aside0.mk ((zb3_4 : w.heap.size ≤ gb217)); have n3_ := Aside0.mk ((zb3_4 : w.heap.size ≤ gb217)); clear HB; have HB := n0_; have BK217 := n1_; have GW217 := n2_; have GE217 := n3_; clear n0_ n1_ n2_ n3_; clear hb hbox hg; have hcz12_0 := bcq_4 BK217.out 0; have hcz12_1 := bcq_4 BK217.out 1; have hcz12_2 := bcq_4 BK217.out 2; have hcz12_3 := bcq_4 BK217.out 3; have hcz12_4 := bcq_4 BK217.out 4; have hfz12_0 := blk_frozen BK217.out 0; have hfz12_1 := blk_frozen BK217.out 1; have hfz12_2 := blk_frozen BK217.out 2; have hfz12_3 := blk_frozen BK217.out 3; have hfz12_4 := blk_frozen BK217.out 4))
          repeat (go_quiet (first | ((with_reducible refine gate_dst (N := 6) rfl ?_); (try (refine gate_guard (by rfl) ?_; dsimp only)); refine box_event ?hg (N := 6) ?hd (cs := #[.string (⟨#[]⟩ : ByteArray), .string (⟨#[]⟩ : ByteArray), .string (⟨#[]⟩ : ByteArray), .int .i64 0, .bool false]) (t := 33) ?hr ?_; (case hd => rfl); (case hg => rfl); (case hr => first | (go_simp; done) | (go_simp; rfl)); intro gb217 hg w11 hbox hb; have n0_ := Aside0.mk (below_step zb2_4 hb); have n1_ := Aside0.mk (hbox); have n2_ := Aside0.mk ((zb3_4 : w.heap.size ≤ gb217)); have n3_ := Aside0.mk ((zb3_4 : w.heap.size ≤ gb217)); clear HB; have HB := n0_; have BK217 := n1_; have GW217 := n2_; have GE217 := n3_; clear n0_ n1_ n2_ n3_; clear hb hbox hg; have hcz12_0 := bcq_4 BK217.out 0; have hcz12_1 := bcq_4 BK217.out 1; have hcz12_2 := bcq_4 BK217.out 2; have hcz12_3 := bcq_4 BK217.out 3; have hcz12_4 := bcq_4 BK217.out 4; have hfz12_0 := blk_frozen BK217.out 0; have hfz12_1 := blk_frozen BK217.out 1; have hfz12_2 := blk_frozen BK217.out 2; have hfz12_3 := blk_frozen BK217.out 3; have hfz12_4 := blk_frozen BK217.out 4)); try go_wp2_with (first | ((with_reducible refine gate_dst (N := 6) rfl ?_); (try (refine gate_guard (by rfl) ?_; dsimp only)); refine box_event ?hg (N := 6) ?hd (cs := #[.string (⟨#[]⟩ : ByteArray), .string (⟨#[]⟩ : ByteArray), .string (⟨#[]⟩ : ByteArray), .int .i64 0, .bool false]) (t := 33) ?hr ?_; (case hd => rfl); (case hg => rfl); (case hr => first | (go_simp; done) | (go_simp; rfl)); intro gb217 hg w11 hbox hb; have n0_ := Aside0.mk (below_step zb2_4 hb); have n1_ := Aside0.mk (hbox); have n2_ := Aside0.mk ((zb3_4 : w.heap.size ≤ gb217)); have n3_ := Aside0.mk ((zb3_4 : w.heap.size ≤ gb217)); clear HB; have HB := n0_; have BK217 := n1_; have GW217 := n2_; have GE217 := n3_; clear n0_ n1_ n2_ n3_; clear hb hbox hg; have hcz12_0 := bcq_4 BK217.out 0; have hcz12_1 := bcq_4 BK217.out 1; have hcz12_2 := bcq_4 BK217.out 2; have hcz12_3 := bcq_4 BK217.out 3; have hcz12_4 := bcq_4 BK217.out 4; have hfz12_0 := blk_frozen BK217.out 0; have hfz12_1 := blk_frozen BK217.out 1; have hfz12_2 := blk_frozen BK217.out 2; have hfz12_3 := blk_frozen BK217.out 3; have hfz12_4 := blk_frozen BK217.out 4)))
          go_ret
          exact ⟨_, by first | rfl | (simp [errW_none, errW_some] <;> rfl) | (simp [*, errW_none, errW_some] <;> rfl), by first | exact Kd.R_nil _ _ _ _ _ | exact Kd.N_nil _ _ _ _ _ | exact Kd.V_nil _ _ _ _ _ | exact Kd.Q_nil _ _ _ _ _ | exact Kd.S_nil _ _ _ _ _, by repeat (first | (with_reducible first | exact HB.out | apply below_alloc | apply pw_below_drewN | apply below_drew1 | refine below_set ?_ GE217.out) | exact HB.out)⟩
         ·
          replace c10 := Bool.eq_false_iff.mpr c10
          subst c10
          have H1 : (if x22_2 > 0 then (if 0 ≤ (wrap64 (x22_2 - 1)) then (if (wrap64 (x22_2 - 1)) < (l0.length : Int) then (if ((Op.bytesLess (((rd_T33 l0 (wrap64 (x22_2 - 1))).f0).toList) (((rd_T33 l0 x22_2).f0).toList)) = true) then (impl_RosterFollow.l0 k2 l0 l1 l0 (l0.length : Int) (wrap64 (x22_2 + 1))) else (some ([] : List (S33)))) else (none)) else (none)) else (impl_RosterFollow.l0 k2 l0 l1 l0 (l0.length : Int) (wrap64 (x22_2 + 1)))) = some r := by rw [if_neg (show ¬ (false = true) by decide)] at H; exact H
          clear H
          have H := H1
          clear H1
          by_cases c13 : x22_2 > 0
          ·
           rw [if_pos c13] at H
           have c13b0 : decide (0 < x22_2) = true := decide_eq_true c13
           clear c13
           obtain ⟨ji14, hji14⟩ : ∃ j_ : Int, (wrap64 (x22_2 - 1)) = j_ := ⟨_, rfl⟩
           replace H : (if 0 ≤ (ji14) then (if (ji14) < (l0.length : Int) then (if ((Op.bytesLess (((rd_T33 l0 (ji14)).f0).toList) (((rd_T33 l0 x22_2).f0).toList)) = true) then (impl_RosterFollow.l0 k2 l0 l1 l0 (l0.length : Int) (wrap64 (x22_2 + 1))) else (some ([] : List (S33)))) else (none)) else (none)) = some r := by first | (rw [hji14] at H; exact H) | (simp only [hji14] at H ⊢; exact H)
           have hji14w : (IntKind.i64.wrap (x22_2 - 1)) = ji14 := (i64_w _).trans hji14
           by_cases c15 : 0 ≤ (ji14)
           ·
            rw [if_pos c15] at H
            have c15b0 : decide (0 ≤ (ji14)) = true := decide_eq_true c15
            clear c15
            by_cases c16 : (ji14) < (l0.length : Int)
            ·
             rw [if_pos c16] at H
             have c16b0 : decide ((ji14) < (l0.length : Int)) = true := decide_eq_true c16
             clear c16
             by_cases c17 : ((Op.bytesLess (((rd_T33 l0 (ji14)).f0).toList) (((rd_T33 l0 x22_2).f0).toList)) = true)
             ·
              rw [if_pos c17] at H
              have c17b0 : (Op.bytesLess (((rd_T33 l0 (ji14)).f0).toList) (((rd_T33 l0 x22_2).f0).toList)) = true := c17
              clear c17
              have H' := Aside0.mk H
              clear H
              have p216 : 0 ≤ (x22_2 : Int) := of_decide_eq_true zb1_4
              have q216 : x22_2 < (l0.length : Int) := of_decide_eq_true zb1_4
              obtain ⟨ad216, e216, hx216_0, hx216_1, hx216_2, hx216_3, hx216_4⟩ := at_T33 HR0.out x22_2 p216 q216
              (try rw [← Nbq9.out] at hx216_4)
              (try rw [← Nbq9.out] at hw216_4)
              cases e216
              replace hx216_0 := (HB.out.cell (World.block_lt_of_cell? w _ hx216_0)).trans hx216_0
              replace hx216_1 := (HB.out.cell (World.block_lt_of_cell? w _ hx216_1)).trans hx216_1
              replace hx216_2 := (HB.out.cell (World.block_lt_of_cell? w _ hx216_2)).trans hx216_2
              replace hx216_3 := (HB.out.cell (World.block_lt_of_cell? w _ hx216_3)).trans hx216_3
              replace hx216_4 := (HB.out.cell (World.block_lt_of_cell? w _ hx216_4)).trans hx216_4
              replace p216 := eq_true p216
              replace q216 := eq_true q216
              go_wp2_with (first | ((with_reducible refine gate_dst (N := 6) rfl ?_); (try (refine gate_guard (by rfl) ?_; dsimp only)); refine box_event ?hg (N := 6) ?hd (cs := #[.string (⟨#[]⟩ : ByteArray), .string (⟨#[]⟩ : ByteArray), .string (⟨#[]⟩ : ByteArray), .int .i64 0, .bool false]) (t := 33) ?hr ?_; (case hd => rfl); (case hg => rfl); (case hr => first | (go_simp; done) | (go_simp; rfl)); intro gb217 hg w18 hbox hb; have n0_ := Aside0.mk (below_step zb2_4 hb); have n1_ := Aside0.mk (hbox); have n2_ := Aside0.mk ((zb3_4 : w.heap.size ≤ gb217)); have n3_ := Aside0.mk ((zb3_4 : w.heap.size ≤ gb217)); clear HB; have HB := n0_; have BK217 := n1_; have GW217 := n2_; have GE217 := n3_; clear n0_ n1_ n2_ n3_; clear hb hbox hg; have hcz19_0 := bcq_4 BK217.out 0; have hcz19_1 := bcq_4 BK217.out 1; have hcz19_2 := bcq_4 BK217.out 2; have hcz19_3 := bcq_4 BK217.out 3; have hcz19_4 := bcq_4 BK217.out 4; have hfz19_0 := blk_frozen BK217.out 0; have hfz19_1 := blk_frozen BK217.out 1; have hfz19_2 := blk_frozen BK217.out 2; have hfz19_3 := blk_frozen BK217.out 3; have hfz19_4 := blk_frozen BK217.out 4; have p218 : 0 ≤ ((ji14) : Int) := of_decide_eq_true zb1_4; have q218 : (ji14) < (l0.length : Int) := of_decide_eq_true zb1_4; obtain ⟨ad218, e218, hx218_0, hx218_1, hx218_2, hx218_3, hx218_4⟩ := at_T33 HR0.out (ji14) p218 q218; (try rw [← Nbq9.out] at hx218_4); obtain rfl : ad216 = ad218 := (by injection e218); have hn218_0 : ad216.block ≠ gb217 := Nat.ne_of_lt (Nat.lt_of_lt_of_le zb4_4 GW217.out); have hn218_1 : ad216.block ≠ gb217 := Nat.ne_of_lt (Nat.lt_of_lt_of_le zb4_4 GW217.out); have hn218_2 : ad216.block ≠ gb217 := Nat.ne_of_lt (Nat.lt_of_lt_of_le zb4_4 GW217.out); have hn218_3 : ad216.block ≠ gb217 := Nat.ne_of_lt (Nat.lt_of_lt_of_le zb4_4 GW217.out); have hn218_4 : ad216.block ≠ gb217 := Nat.ne_of_lt (Nat.lt_of_lt_of_le zb4_4 GW217.out); replace hx218_0 := (HB.out.cell (World.block_lt_of_cell? w _ hx218_0)).trans hx218_0; replace hx218_1 := (HB.out.cell (World.block_lt_of_cell? w _ hx218_1)).trans hx218_1; replace hx218_2 := (HB.out.cell (World.block_lt_of_cell? w _ hx218_2)).trans hx218_2; replace hx218_3 := (HB.out.cell (World.block_lt_of_cell? w _ hx218_3)).trans hx218_3; replace hx218_4 := (HB.out.cell (World.block_lt_of_cell? w _ hx218_4)).trans hx218_4; replace hx218_0 := (cell_far (p := ⟨gb217, 0, none⟩) zb5_4 (.string ((rd_T33 l0 x22_2).f0))).trans hx218_0; replace hx218_1 := (cell_far (p := ⟨gb217, 0, none⟩) zb5_4 (.string ((rd_T33 l0 x22_2).f0))).trans hx218_1; replace hx218_2 := (cell_far (p := ⟨gb217, 0, none⟩) zb5_4 (.string ((rd_T33 l0 x22_2).f0))).trans hx218_2; replace hx218_3 := (cell_far (p := ⟨gb217, 0, none⟩) zb5_4 (.string ((rd_T33 l0 x22_2).f0))).trans hx218_3; replace hx218_4 := (cell_far (p := ⟨gb217, 0, none⟩) zb5_4 (.string ((rd_T33 l0 x22_2).f0))).trans hx218_4; replace hx218_0 := (cell_far (p := ⟨gb217, 1, none⟩) zb6_4 (.string ((rd_T33 l0 x22_2).f1))).trans hx218_0; replace hx218_1 := (cell_far (p := ⟨gb217, 1, none⟩) zb6_4 (.string ((rd_T33 l0 x22_2).f1))).trans hx218_1; replace hx218_2 := (cell_far (p := ⟨gb217, 1, none⟩) zb6_4 (.string ((rd_T33 l0 x22_2).f1))).trans hx218_2; replace hx218_3 := (cell_far (p := ⟨gb217, 1, none⟩) zb6_4 (.string ((rd_T33 l0 x22_2).f1))).trans hx218_3; replace hx218_4 := (cell_far (p := ⟨gb217, 1, none⟩) zb6_4 (.string ((rd_T33 l0 x22_2).f1))).trans hx218_4; replace hx218_0 := (cell_far (p := ⟨gb217, 2, none⟩) zb7_4 (.string ((rd_T33 l0 x22_2).f2))).trans hx218_0; replace hx218_1 := (cell_far (p := ⟨gb217, 2, none⟩) zb7_4 (.string ((rd_T33 l0 x22_2).f2))).trans hx218_1; replace hx218_2 := (cell_far (p := ⟨gb217, 2, none⟩) zb7_4 (.string ((rd_T33 l0 x22_2).f2))).trans hx218_2; replace hx218_3 := (cell_far (p := ⟨gb217, 2, none⟩) zb7_4 (.string ((rd_T33 l0 x22_2).f2))).trans hx218_3; replace hx218_4 := (cell_far (p := ⟨gb217, 2, none⟩) zb7_4 (.string ((rd_T33 l0 x22_2).f2))).trans hx218_4; replace hx218_0 := (cell_far (p := ⟨gb217, 3, none⟩) zb8_4 (.int .i64 ((rd_T33 l0 x22_2).f3))).trans hx218_0; replace hx218_1 := (cell_far (p := ⟨gb217, 3, none⟩) zb8_4 (.int .i64 ((rd_T33 l0 x22_2).f3))).trans hx218_1; replace hx218_2 := (cell_far (p := ⟨gb217, 3, none⟩) zb8_4 (.int .i64 ((rd_T33 l0 x22_2).f3))).trans hx218_2; replace hx218_3 := (cell_far (p := ⟨gb217, 3, none⟩) zb8_4 (.int .i64 ((rd_T33 l0 x22_2).f3))).trans hx218_3; replace hx218_4 := (cell_far (p := ⟨gb217, 3, none⟩) zb8_4 (.int .i64 ((rd_T33 l0 x22_2).f3))).trans hx218_4; replace hx218_0 := (cell_far (p := ⟨gb217, 4, none⟩) zb9_4 (.bool false)).trans hx218_0; replace hx218_1 := (cell_far (p := ⟨gb217, 4, none⟩) zb9_4 (.bool false)).trans hx218_1; replace hx218_2 := (cell_far (p := ⟨gb217, 4, none⟩) zb9_4 (.bool false)).trans hx218_2; replace hx218_3 := (cell_far (p := ⟨gb217, 4, none⟩) zb9_4 (.bool false)).trans hx218_3; replace hx218_4 := (cell_far (p := ⟨gb217, 4, none⟩) zb9_4 (.bool false)).trans hx218_4; (try have hy218_0 := fun (n_ : Nat) => (show (((((((w18.drewN n_).setCell ⟨gb217, 0, none⟩ (.string ((rd_T33 l0 x22_2).f0))).setCell ⟨gb217, 1, none⟩ (.string ((rd_T33 l0 x22_2).f1))).setCell ⟨gb217, 2, none⟩ (.string ((rd_T33 l0 x22_2).f2))).setCell ⟨gb217, 3, none⟩ (.int .i64 ((rd_T33 l0 x22_2).f3))).setCell ⟨gb217, 4, none⟩ (.bool false))).cell? _ = some _ from hx218_0)); (try have hy218_1 := fun (n_ : Nat) => (show (((((((w18.drewN n_).setCell ⟨gb217, 0, none⟩ (.string ((rd_T33 l0 x22_2).f0))).setCell ⟨gb217, 1, none⟩ (.string ((rd_T33 l0 x22_2).f1))).setCell ⟨gb217, 2, none⟩ (.string ((rd_T33 l0 x22_2).f2))).setCell ⟨gb217, 3, none⟩ (.int .i64 ((rd_T33 l0 x22_2).f3))).setCell ⟨gb217, 4, none⟩ (.bool false))).cell? _ = some _ from hx218_1)); (try have hy218_2 := fun (n_ : Nat) => (show (((((((w18.drewN n_).setCell ⟨gb217, 0, none⟩ (.string ((rd_T33 l0 x22_2).f0))).setCell ⟨gb217, 1, none⟩ (.string ((rd_T33 l0 x22_2).f1))).setCell ⟨gb217, 2, none⟩ (.string ((rd_T33 l0 x22_2).f2))).setCell ⟨gb217, 3, none⟩ (.int .i64 ((rd_T33 l0 x22_2).f3))).setCell ⟨gb217, 4, none⟩ (.bool false))).cell? _ = some _ from hx218_2)); (try have hy218_3 := fun (n_ : Nat) => (show (((((((w18.drewN n_).setCell ⟨gb217, 0, none⟩ (.string ((rd_T33 l0 x22_2).f0))).setCell ⟨gb217, 1, none⟩ (.string ((rd_T33 l0 x22_2).f1))).setCell ⟨gb217, 2, none⟩ (.string ((rd_T33 l0 x22_2).f2))).setCell ⟨gb217, 3, none⟩ (.int .i64 ((rd_T33 l0 x22_2).f3))).setCell ⟨gb217, 4, none⟩ (.bool false))).cell? _ = some _ from hx218_3)); (try have hy218_4 := fun (n_ : Nat) => (show (((((((w18.drewN n_).setCell ⟨gb217, 0, none⟩ (.string ((rd_T33 l0 x22_2).f0))).setCell ⟨gb217, 1, none⟩ (.string ((rd_T33 l0 x22_2).f1))).setCell ⟨gb217, 2, none⟩ (.string ((rd_T33 l0 x22_2).f2))).setCell ⟨gb217, 3, none⟩ (.int .i64 ((rd_T33 l0 x22_2).f3))).setCell ⟨gb217, 4, none⟩ (.bool false))).cell? _ = some _ from hx218_4)); clear hn218_0; clear hn218_1; clear hn218_2; clear hn218_3; clear hn218_4; replace p218 := eq_true p218; replace q218 := eq_true q218))
              repeat (go_quiet (first | ((with_reducible refine gate_dst (N := 6) rfl ?_); (try (refine gate_guard (by rfl) ?_; dsimp only)); refine box_event ?hg (N := 6) ?hd (cs := #[.string (⟨#[]⟩ : ByteArray), .string (⟨#[]⟩ : ByteArray), .string (⟨#[]⟩ : ByteArray), .int .i64 0, .bool false]) (t := 33) ?hr ?_; (case hd => rfl); (case hg => rfl); (case hr => first | (go_simp; done) | (go_simp; rfl)); intro gb217 hg w18 hbox hb; have n0_ := Aside0.mk (below_step zb2_4 hb); have n1_ := Aside0.mk (hbox); have n2_ := Aside0.mk ((zb3_4 : w.heap.size ≤ gb217)); have n3_ := Aside0.mk ((zb3_4 : w.heap.size ≤ gb217)); clear HB; have HB := n0_; have BK217 := n1_; have GW217 := n2_; have GE217 := n3_; clear n0_ n1_ n2_ n3_; clear hb hbox hg; have hcz19_0 := bcq_4 BK217.out 0; have hcz19_1 := bcq_4 BK217.out 1; have hcz19_2 := bcq_4 BK217.out 2; have hcz19_3 := bcq_4 BK217.out 3; have hcz19_4 := bcq_4 BK217.out 4; have hfz19_0 := blk_frozen BK217.out 0; have hfz19_1 := blk_frozen BK217.out 1; have hfz19_2 := blk_frozen BK217.out 2; have hfz19_3 := blk_frozen BK217.out 3; have hfz19_4 := blk_frozen BK217.out 4; have p218 : 0 ≤ ((ji14) : Int) := of_decide_eq_true zb1_4; have q218 : (ji14) < (l0.length : Int) := of_decide_eq_true zb1_4; obtain ⟨ad218, e218, hx218_0, hx218_1, hx218_2, hx218_3, hx218_4⟩ := at_T33 HR0.out (ji14) p218 q218; (try rw [← Nbq9.out] at hx218_4); obtain rfl : ad216 = ad218 := (by injection e218); have hn218_0 : ad216.block ≠ gb217 := Nat.ne_of_lt (Nat.lt_of_lt_of_le zb4_4 GW217.out); have hn218_1 : ad216.block ≠ gb217 := Nat.ne_of_lt (Nat.lt_of_lt_of_le zb4_4 GW217.out); have hn218_2 : ad216.block ≠ gb217 := Nat.ne_of_lt (Nat.lt_of_lt_of_le zb4_4 GW217.out); have hn218_3 : ad216.block ≠ gb217 := Nat.ne_of_lt (Nat.lt_of_lt_of_le zb4_4 GW217.out); have hn218_4 : ad216.block ≠ gb217 := Nat.ne_of_lt (Nat.lt_of_lt_of_le zb4_4 GW217.out); replace hx218_0 := (HB.out.cell (World.block_lt_of_cell? w _ hx218_0)).trans hx218_0; replace hx218_1 := (HB.out.cell (World.block_lt_of_cell? w _ hx218_1)).trans hx218_1; replace hx218_2 := (HB.out.cell (World.block_lt_of_cell? w _ hx218_2)).trans hx218_2; replace hx218_3 := (HB.out.cell (World.block_lt_of_cell? w _ hx218_3)).trans hx218_3; replace hx218_4 := (HB.out.cell (World.block_lt_of_cell? w _ hx218_4)).trans hx218_4; replace hx218_0 := (cell_far (p := ⟨gb217, 0, none⟩) zb5_4 (.string ((rd_T33 l0 x22_2).f0))).trans hx218_0; replace hx218_1 := (cell_far (p := ⟨gb217, 0, none⟩) zb5_4 (.string ((rd_T33 l0 x22_2).f0))).trans hx218_1; replace hx218_2 := (cell_far (p := ⟨gb217, 0, none⟩) zb5_4 (.string ((rd_T33 l0 x22_2).f0))).trans hx218_2; replace hx218_3 := (cell_far (p := ⟨gb217, 0, none⟩) zb5_4 (.string ((rd_T33 l0 x22_2).f0))).trans hx218_3; replace hx218_4 := (cell_far (p := ⟨gb217, 0, none⟩) zb5_4 (.string ((rd_T33 l0 x22_2).f0))).trans hx218_4; replace hx218_0 := (cell_far (p := ⟨gb217, 1, none⟩) zb6_4 (.string ((rd_T33 l0 x22_2).f1))).trans hx218_0; replace hx218_1 := (cell_far (p := ⟨gb217, 1, none⟩) zb6_4 (.string ((rd_T33 l0 x22_2).f1))).trans hx218_1; replace hx218_2 := (cell_far (p := ⟨gb217, 1, none⟩) zb6_4 (.string ((rd_T33 l0 x22_2).f1))).trans hx218_2; replace hx218_3 := (cell_far (p := ⟨gb217, 1, none⟩) zb6_4 (.string ((rd_T33 l0 x22_2).f1))).trans hx218_3; replace hx218_4 := (cell_far (p := ⟨gb217, 1, none⟩) zb6_4 (.string ((rd_T33 l0 x22_2).f1))).trans hx218_4; replace hx218_0 := (cell_far (p := ⟨gb217, 2, none⟩) zb7_4 (.string ((rd_T33 l0 x22_2).f2))).trans hx218_0; replace hx218_1 := (cell_far (p := ⟨gb217, 2, none⟩) zb7_4 (.string ((rd_T33 l0 x22_2).f2))).trans hx218_1; replace hx218_2 := (cell_far (p := ⟨gb217, 2, none⟩) zb7_4 (.string ((rd_T33 l0 x22_2).f2))).trans hx218_2; replace hx218_3 := (cell_far (p := ⟨gb217, 2, none⟩) zb7_4 (.string ((rd_T33 l0 x22_2).f2))).trans hx218_3; replace hx218_4 := (cell_far (p := ⟨gb217, 2, none⟩) zb7_4 (.string ((rd_T33 l0 x22_2).f2))).trans hx218_4; replace hx218_0 := (cell_far (p := ⟨gb217, 3, none⟩) zb8_4 (.int .i64 ((rd_T33 l0 x22_2).f3))).trans hx218_0; replace hx218_1 := (cell_far (p := ⟨gb217, 3, none⟩) zb8_4 (.int .i64 ((rd_T33 l0 x22_2).f3))).trans hx218_1; replace hx218_2 := (cell_far (p := ⟨gb217, 3, none⟩) zb8_4 (.int .i64 ((rd_T33 l0 x22_2).f3))).trans hx218_2; replace hx218_3 := (cell_far (p := ⟨gb217, 3, none⟩) zb8_4 (.int .i64 ((rd_T33 l0 x22_2).f3))).trans hx218_3; replace hx218_4 := (cell_far (p := ⟨gb217, 3, none⟩) zb8_4 (.int .i64 ((rd_T33 l0 x22_2).f3))).trans hx218_4; replace hx218_0 := (cell_far (p := ⟨gb217, 4, none⟩) zb9_4 (.bool false)).trans hx218_0; replace hx218_1 := (cell_far (p := ⟨gb217, 4, none⟩) zb9_4 (.bool false)).trans hx218_1; replace hx218_2 := (cell_far (p := ⟨gb217, 4, none⟩) zb9_4 (.bool false)).trans hx218_2; replace hx218_3 := (cell_far (p := ⟨gb217, 4, none⟩) zb9_4 (.bool false)).trans hx218_3; replace hx218_4 := (cell_far (p := ⟨gb217, 4, none⟩) zb9_4 (.bool false)).trans hx218_4; (try have hy218_0 := fun (n_ : Nat) => (show (((((((w18.drewN n_).setCell ⟨gb217, 0, none⟩ (.string ((rd_T33 l0 x22_2).f0))).setCell ⟨gb217, 1, none⟩ (.string ((rd_T33 l0 x22_2).f1))).setCell ⟨gb217, 2, none⟩ (.string ((rd_T33 l0 x22_2).f2))).setCell ⟨gb217, 3, none⟩ (.int .i64 ((rd_T33 l0 x22_2).f3))).setCell ⟨gb217, 4, none⟩ (.bool false))).cell? _ = some _ from hx218_0)); (try have hy218_1 := fun (n_ : Nat) => (show (((((((w18.drewN n_).setCell ⟨gb217, 0, none⟩ (.string ((rd_T33 l0 x22_2).f0))).setCell ⟨gb217, 1, none⟩ (.string ((rd_T33 l0 x22_2).f1))).setCell ⟨gb217, 2, none⟩ (.string ((rd_T33 l0 x22_2).f2))).setCell ⟨gb217, 3, none⟩ (.int .i64 ((rd_T33 l0 x22_2).f3))).setCell ⟨gb217, 4, none⟩ (.bool false))).cell? _ = some _ from hx218_1)); (try have hy218_2 := fun (n_ : Nat) => (show (((((((w18.drewN n_).setCell ⟨gb217, 0, none⟩ (.string ((rd_T33 l0 x22_2).f0))).setCell ⟨gb217, 1, none⟩ (.string ((rd_T33 l0 x22_2).f1))).setCell ⟨gb217, 2, none⟩ (.string ((rd_T33 l0 x22_2).f2))).setCell ⟨gb217, 3, none⟩ (.int .i64 ((rd_T33 l0 x22_2).f3))).setCell ⟨gb217, 4, none⟩ (.bool false))).cell? _ = some _ from hx218_2)); (try have hy218_3 := fun (n_ : Nat) => (show (((((((w18.drewN n_).setCell ⟨gb217, 0, none⟩ (.string ((rd_T33 l0 x22_2).f0))).setCell ⟨gb217, 1, none⟩ (.string ((rd_T33 l0 x22_2).f1))).setCell ⟨gb217, 2, none⟩ (.string ((rd_T33 l0 x22_2).f2))).setCell ⟨gb217, 3, none⟩ (.int .i64 ((rd_T33 l0 x22_2).f3))).setCell ⟨gb217, 4, none⟩ (.bool false))).cell? _ = some _ from hx218_3)); (try have hy218_4 := fun (n_ : Nat) => (show (((((((w18.drewN n_).setCell ⟨gb217, 0, none⟩ (.string ((rd_T33 l0 x22_2).f0))).setCell ⟨gb217, 1, none⟩ (.string ((rd_T33 l0 x22_2).f1))).setCell ⟨gb217, 2, none⟩ (.string ((rd_T33 l0 x22_2).f2))).setCell ⟨gb217, 3, none⟩ (.int .i64 ((rd_T33 l0 x22_2).f3))).setCell ⟨gb217, 4, none⟩ (.bool false))).cell? _ = some _ from hx218_4)); clear hn218_0; clear hn218_1; clear hn218_2; clear hn218_3; clear hn218_4; replace p218 := eq_true p218; replace q218 := eq_true q218)); try go_wp2_with (first | ((with_reducible refine gate_dst (N := 6) rfl ?_); (try (refine gate_guard (by rfl) ?_; dsimp only)); refine box_event ?hg (N := 6) ?hd (cs := #[.string (⟨#[]⟩ : ByteArray), .string (⟨#[]⟩ : ByteArray), .string (⟨#[]⟩ : ByteArray), .int .i64 0, .bool false]) (t := 33) ?hr ?_; (case hd => rfl); (case hg => rfl); (case hr => first | (go_simp; done) | (go_simp; rfl)); intro gb217 hg w18 hbox hb; have n0_ := Aside0.mk (below_step zb2_4 hb); have n1_ := Aside0.mk (hbox); have n2_ := Aside0.mk ((zb3_4 : w.heap.size ≤ gb217)); have n3_ := Aside0.mk ((zb3_4 : w.heap.size ≤ gb217)); clear HB; have HB := n0_; have BK217 := n1_; have GW217 := n2_; have GE217 := n3_; clear n0_ n1_ n2_ n3_; clear hb hbox hg; have hcz19_0 := bcq_4 BK217.out 0; have hcz19_1 := bcq_4 BK217.out 1; have hcz19_2 := bcq_4 BK217.out 2; have hcz19_3 := bcq_4 BK217.out 3; have hcz19_4 := bcq_4 BK217.out 4; have hfz19_0 := blk_frozen BK217.out 0; have hfz19_1 := blk_frozen BK217.out 1; have hfz19_2 := blk_frozen BK217.out 2; have hfz19_3 := blk_frozen BK217.out 3; have hfz19_4 := blk_frozen BK217.out 4; have p218 : 0 ≤ ((ji14) : Int) := of_decide_eq_true zb1_4; have q218 : (ji14) < (l0.length : Int) := of_decide_eq_true zb1_4; obtain ⟨ad218, e218, hx218_0, hx218_1, hx218_2, hx218_3, hx218_4⟩ := at_T33 HR0.out (ji14) p218 q218; (try rw [← Nbq9.out] at hx218_4); obtain rfl : ad216 = ad218 := (by injection e218); have hn218_0 : ad216.block ≠ gb217 := Nat.ne_of_lt (Nat.lt_of_lt_of_le zb4_4 GW217.out); have hn218_1 : ad216.block ≠ gb217 := Nat.ne_of_lt (Nat.lt_of_lt_of_le zb4_4 GW217.out); have hn218_2 : ad216.block ≠ gb217 := Nat.ne_of_lt (Nat.lt_of_lt_of_le zb4_4 GW217.out); have hn218_3 : ad216.block ≠ gb217 := Nat.ne_of_lt (Nat.lt_of_lt_of_le zb4_4 GW217.out); have hn218_4 : ad216.block ≠ gb217 := Nat.ne_of_lt (Nat.lt_of_lt_of_le zb4_4 GW217.out); replace hx218_0 := (HB.out.cell (World.block_lt_of_cell? w _ hx218_0)).trans hx218_0; replace hx218_1 := (HB.out.cell (World.block_lt_of_cell? w _ hx218_1)).trans hx218_1; replace hx218_2 := (HB.out.cell (World.block_lt_of_cell? w _ hx218_2)).trans hx218_2; replace hx218_3 := (HB.out.cell (World.block_lt_of_cell? w _ hx218_3)).trans hx218_3; replace hx218_4 := (HB.out.cell (World.block_lt_of_cell? w _ hx218_4)).trans hx218_4; replace hx218_0 := (cell_far (p := ⟨gb217, 0, none⟩) zb5_4 (.string ((rd_T33 l0 x22_2).f0))).trans hx218_0; replace hx218_1 := (cell_far (p := ⟨gb217, 0, none⟩) zb5_4 (.string ((rd_T33 l0 x22_2).f0))).trans hx218_1; replace hx218_2 := (cell_far (p := ⟨gb217, 0, none⟩) zb5_4 (.string ((rd_T33 l0 x22_2).f0))).trans hx218_2; replace hx218_3 := (cell_far (p := ⟨gb217, 0, none⟩) zb5_4 (.string ((rd_T33 l0 x22_2).f0))).trans hx218_3; replace hx218_4 := (cell_far (p := ⟨gb217, 0, none⟩) zb5_4 (.string ((rd_T33 l0 x22_2).f0))).trans hx218_4; replace hx218_0 := (cell_far (p := ⟨gb217, 1, none⟩) zb6_4 (.string ((rd_T33 l0 x22_2).f1))).trans hx218_0; replace hx218_1 := (cell_far (p := ⟨gb217, 1, none⟩) zb6_4 (.string ((rd_T33 l0 x22_2).f1))).trans hx218_1; replace hx218_2 := (cell_far (p := ⟨gb217, 1, none⟩) zb6_4 (.string ((rd_T33 l0 x22_2).f1))).trans hx218_2; replace hx218_3 := (cell_far (p := ⟨gb217, 1, none⟩) zb6_4 (.string ((rd_T33 l0 x22_2).f1))).trans hx218_3; replace hx218_4 := (cell_far (p := ⟨gb217, 1, none⟩) zb6_4 (.string ((rd_T33 l0 x22_2).f1))).trans hx218_4; replace hx218_0 := (cell_far (p := ⟨gb217, 2, none⟩) zb7_4 (.string ((rd_T33 l0 x22_2).f2))).trans hx218_0; replace hx218_1 := (cell_far (p := ⟨gb217, 2, none⟩) zb7_4 (.string ((rd_T33 l0 x22_2).f2))).trans hx218_1; replace hx218_2 := (cell_far (p := ⟨gb217, 2, none⟩) zb7_4 (.string ((rd_T33 l0 x22_2).f2))).trans hx218_2; replace hx218_3 := (cell_far (p := ⟨gb217, 2, none⟩) zb7_4 (.string ((rd_T33 l0 x22_2).f2))).trans hx218_3; replace hx218_4 := (cell_far (p := ⟨gb217, 2, none⟩) zb7_4 (.string ((rd_T33 l0 x22_2).f2))).trans hx218_4; replace hx218_0 := (cell_far (p := ⟨gb217, 3, none⟩) zb8_4 (.int .i64 ((rd_T33 l0 x22_2).f3))).trans hx218_0; replace hx218_1 := (cell_far (p := ⟨gb217, 3, none⟩) zb8_4 (.int .i64 ((rd_T33 l0 x22_2).f3))).trans hx218_1; replace hx218_2 := (cell_far (p := ⟨gb217, 3, none⟩) zb8_4 (.int .i64 ((rd_T33 l0 x22_2).f3))).trans hx218_2; replace hx218_3 := (cell_far (p := ⟨gb217, 3, none⟩) zb8_4 (.int .i64 ((rd_T33 l0 x22_2).f3))).trans hx218_3; replace hx218_4 := (cell_far (p := ⟨gb217, 3, none⟩) zb8_4 (.int .i64 ((rd_T33 l0 x22_2).f3))).trans hx218_4; replace hx218_0 := (cell_far (p := ⟨gb217, 4, none⟩) zb9_4 (.bool false)).trans hx218_0; replace hx218_1 := (cell_far (p := ⟨gb217, 4, none⟩) zb9_4 (.bool false)).trans hx218_1; replace hx218_2 := (cell_far (p := ⟨gb217, 4, none⟩) zb9_4 (.bool false)).trans hx218_2; replace hx218_3 := (cell_far (p := ⟨gb217, 4, none⟩) zb9_4 (.bool false)).trans hx218_3; replace hx218_4 := (cell_far (p := ⟨gb217, 4, none⟩) zb9_4 (.bool false)).trans hx218_4; (try have hy218_0 := fun (n_ : Nat) => (show (((((((w18.drewN n_).setCell ⟨gb217, 0, none⟩ (.string ((rd_T33 l0 x22_2).f0))).setCell ⟨gb217, 1, none⟩ (.string ((rd_T33 l0 x22_2).f1))).setCell ⟨gb217, 2, none⟩ (.string ((rd_T33 l0 x22_2).f2))).setCell ⟨gb217, 3, none⟩ (.int .i64 ((rd_T33 l0 x22_2).f3))).setCell ⟨gb217, 4, none⟩ (.bool false))).cell? _ = some _ from hx218_0)); (try have hy218_1 := fun (n_ : Nat) => (show (((((((w18.drewN n_).setCell ⟨gb217, 0, none⟩ (.string ((rd_T33 l0 x22_2).f0))).setCell ⟨gb217, 1, none⟩ (.string ((rd_T33 l0 x22_2).f1))).setCell ⟨gb217, 2, none⟩ (.string ((rd_T33 l0 x22_2).f2))).setCell ⟨gb217, 3, none⟩ (.int .i64 ((rd_T33 l0 x22_2).f3))).setCell ⟨gb217, 4, none⟩ (.bool false))).cell? _ = some _ from hx218_1)); (try have hy218_2 := fun (n_ : Nat) => (show (((((((w18.drewN n_).setCell ⟨gb217, 0, none⟩ (.string ((rd_T33 l0 x22_2).f0))).setCell ⟨gb217, 1, none⟩ (.string ((rd_T33 l0 x22_2).f1))).setCell ⟨gb217, 2, none⟩ (.string ((rd_T33 l0 x22_2).f2))).setCell ⟨gb217, 3, none⟩ (.int .i64 ((rd_T33 l0 x22_2).f3))).setCell ⟨gb217, 4, none⟩ (.bool false))).cell? _ = some _ from hx218_2)); (try have hy218_3 := fun (n_ : Nat) => (show (((((((w18.drewN n_).setCell ⟨gb217, 0, none⟩ (.string ((rd_T33 l0 x22_2).f0))).setCell ⟨gb217, 1, none⟩ (.string ((rd_T33 l0 x22_2).f1))).setCell ⟨gb217, 2, none⟩ (.string ((rd_T33 l0 x22_2).f2))).setCell ⟨gb217, 3, none⟩ (.int .i64 ((rd_T33 l0 x22_2).f3))).setCell ⟨gb217, 4, none⟩ (.bool false))).cell? _ = some _ from hx218_3)); (try have hy218_4 := fun (n_ : Nat) => (show (((((((w18.drewN n_).setCell ⟨gb217, 0, none⟩ (.string ((rd_T33 l0 x22_2).f0))).setCell ⟨gb217, 1, none⟩ (.string ((rd_T33 l0 x22_2).f1))).setCell ⟨gb217, 2, none⟩ (.string ((rd_T33 l0 x22_2).f2))).setCell ⟨gb217, 3, none⟩ (.int .i64 ((rd_T33 l0 x22_2).f3))).setCell ⟨gb217, 4, none⟩ (.bool false))).cell? _ = some _ from hx218_4)); clear hn218_0; clear hn218_1; clear hn218_2; clear hn218_3; clear hn218_4; replace p218 := eq_true p218; replace q218 := eq_true q218)))
              go_roundg k2
              case measure => have := HJ2.out; have := HK2.out; omega
              case rel => exact ⟨(wrap64 (x22_2 + 1)), zb0_4, H', ⟨by have := HJ2.out; have := HK2.out; omega⟩, ⟨by repeat (first | (with_reducible first | exact HB.out | apply below_alloc | apply pw_below_drewN | apply below_drew1 | refine below_set ?_ GE217.out) | exact HB.out)⟩⟩
             ·
              rw [if_neg c17] at H
              have c17b0 : (Op.bytesLess (((rd_T33 l0 (ji14)).f0).toList) (((rd_T33 l0 x22_2).f0).toList)) = false := by simpa using c17
              clear c17
              obtain rfl := Option.some.inj H
              have p216 : 0 ≤ (x22_2 : Int) := of_decide_eq_true zb1_4
              have q216 : x22_2 < (l0.length : Int) := of_decide_eq_true zb1_4
              obtain ⟨ad216, e216, hx216_0, hx216_1, hx216_2, hx216_3, hx216_4⟩ := at_T33 HR0.out x22_2 p216 q216
              (try rw [← Nbq9.out] at hx216_4)
              (try rw [← Nbq9.out] at hw216_4)
              cases e216
              replace hx216_0 := (HB.out.cell (World.block_lt_of_cell? w _ hx216_0)).trans hx216_0
              replace hx216_1 := (HB.out.cell (World.block_lt_of_cell? w _ hx216_1)).trans hx216_1
              replace hx216_2 := (HB.out.cell (World.block_lt_of_cell? w _ hx216_2)).trans hx216_2
              replace hx216_3 := (HB.out.cell (World.block_lt_of_cell? w _ hx216_3)).trans hx216_3
              replace hx216_4 := (HB.out.cell (World.block_lt_of_cell? w _ hx216_4)).trans hx216_4
              replace p216 := eq_true p216
              replace q216 := eq_true q216
              go_wp2_with (first | ((with_reducible refine gate_dst (N := 6) rfl ?_); (try (refine gate_guard (by rfl) ?_; dsimp only)); refine box_event ?hg (N := 6) ?hd (cs := #[.string (⟨#[]⟩ : ByteArray), .string (⟨#[]⟩ : ByteArray), .string (⟨#[]⟩ : ByteArray), .int .i64 0, .bool false]) (t := 33) ?hr ?_; (case hd => rfl); (case hg => rfl); (case hr => first | (go_simp; done) | (go_simp; rfl)); intro gb217 hg w20 hbox hb; have n0_ := Aside0.mk (below_step zb2_4 hb); have n1_ := Aside0.mk (hbox); have n2_ := Aside0.mk ((zb3_4 : w.heap.size ≤ gb217)); have n3_ := Aside0.mk ((zb3_4 : w.heap.size ≤ gb217)); clear HB; have HB := n0_; have BK217 := n1_; have GW217 := n2_; have GE217 := n3_; clear n0_ n1_ n2_ n3_; clear hb hbox hg; have hcz21_0 := bcq_4 BK217.out 0; have hcz21_1 := bcq_4 BK217.out 1; have hcz21_2 := bcq_4 BK217.out 2; have hcz21_3 := bcq_4 BK217.out 3; have hcz21_4 := bcq_4 BK217.out 4; have hfz21_0 := blk_frozen BK217.out 0; have hfz21_1 := blk_frozen BK217.out 1; have hfz21_2 := blk_frozen BK217.out 2; have hfz21_3 := blk_frozen BK217.out 3; have hfz21_4 := blk_frozen BK217.out 4; have p218 : 0 ≤ ((ji14) : Int) := of_decide_eq_true zb1_4; have q218 : (ji14) < (l0.length : Int) := of_decide_eq_true zb1_4; obtain ⟨ad218, e218, hx218_0, hx218_1, hx218_2, hx218_3, hx218_4⟩ := at_T33 HR0.out (ji14) p218 q218; (try rw [← Nbq9.out] at hx218_4); obtain rfl : ad216 = ad218 := (by injection e218); have hn218_0 : ad216.block ≠ gb217 := Nat.ne_of_lt (Nat.lt_of_lt_of_le zb4_4 GW217.out); have hn218_1 : ad216.block ≠ gb217 := Nat.ne_of_lt (Nat.lt_of_lt_of_le zb4_4 GW217.out); have hn218_2 : ad216.block ≠ gb217 := Nat.ne_of_lt (Nat.lt_of_lt_of_le zb4_4 GW217.out); have hn218_3 : ad216.block ≠ gb217 := Nat.ne_of_lt (Nat.lt_of_lt_of_le zb4_4 GW217.out); have hn218_4 : ad216.block ≠ gb217 := Nat.ne_of_lt (Nat.lt_of_lt_of_le zb4_4 GW217.out); replace hx218_0 := (HB.out.cell (World.block_lt_of_cell? w _ hx218_0)).trans hx218_0; replace hx218_1 := (HB.out.cell (World.block_lt_of_cell? w _ hx218_1)).trans hx218_1; replace hx218_2 := (HB.out.cell (World.block_lt_of_cell? w _ hx218_2)).trans hx218_2; replace hx218_3 := (HB.out.cell (World.block_lt_of_cell? w _ hx218_3)).trans hx218_3; replace hx218_4 := (HB.out.cell (World.block_lt_of_cell? w _ hx218_4)).trans hx218_4; replace hx218_0 := (cell_far (p := ⟨gb217, 0, none⟩) zb5_4 (.string ((rd_T33 l0 x22_2).f0))).trans hx218_0; replace hx218_1 := (cell_far (p := ⟨gb217, 0, none⟩) zb5_4 (.string ((rd_T33 l0 x22_2).f0))).trans hx218_1; replace hx218_2 := (cell_far (p := ⟨gb217, 0, none⟩) zb5_4 (.string ((rd_T33 l0 x22_2).f0))).trans hx218_2; replace hx218_3 := (cell_far (p := ⟨gb217, 0, none⟩) zb5_4 (.string ((rd_T33 l0 x22_2).f0))).trans hx218_3; replace hx218_4 := (cell_far (p := ⟨gb217, 0, none⟩) zb5_4 (.string ((rd_T33 l0 x22_2).f0))).trans hx218_4; replace hx218_0 := (cell_far (p := ⟨gb217, 1, none⟩) zb6_4 (.string ((rd_T33 l0 x22_2).f1))).trans hx218_0; replace hx218_1 := (cell_far (p := ⟨gb217, 1, none⟩) zb6_4 (.string ((rd_T33 l0 x22_2).f1))).trans hx218_1; replace hx218_2 := (cell_far (p := ⟨gb217, 1, none⟩) zb6_4 (.string ((rd_T33 l0 x22_2).f1))).trans hx218_2; replace hx218_3 := (cell_far (p := ⟨gb217, 1, none⟩) zb6_4 (.string ((rd_T33 l0 x22_2).f1))).trans hx218_3; replace hx218_4 := (cell_far (p := ⟨gb217, 1, none⟩) zb6_4 (.string ((rd_T33 l0 x22_2).f1))).trans hx218_4; replace hx218_0 := (cell_far (p := ⟨gb217, 2, none⟩) zb7_4 (.string ((rd_T33 l0 x22_2).f2))).trans hx218_0; replace hx218_1 := (cell_far (p := ⟨gb217, 2, none⟩) zb7_4 (.string ((rd_T33 l0 x22_2).f2))).trans hx218_1; replace hx218_2 := (cell_far (p := ⟨gb217, 2, none⟩) zb7_4 (.string ((rd_T33 l0 x22_2).f2))).trans hx218_2; replace hx218_3 := (cell_far (p := ⟨gb217, 2, none⟩) zb7_4 (.string ((rd_T33 l0 x22_2).f2))).trans hx218_3; replace hx218_4 := (cell_far (p := ⟨gb217, 2, none⟩) zb7_4 (.string ((rd_T33 l0 x22_2).f2))).trans hx218_4; replace hx218_0 := (cell_far (p := ⟨gb217, 3, none⟩) zb8_4 (.int .i64 ((rd_T33 l0 x22_2).f3))).trans hx218_0; replace hx218_1 := (cell_far (p := ⟨gb217, 3, none⟩) zb8_4 (.int .i64 ((rd_T33 l0 x22_2).f3))).trans hx218_1; replace hx218_2 := (cell_far (p := ⟨gb217, 3, none⟩) zb8_4 (.int .i64 ((rd_T33 l0 x22_2).f3))).trans hx218_2; replace hx218_3 := (cell_far (p := ⟨gb217, 3, none⟩) zb8_4 (.int .i64 ((rd_T33 l0 x22_2).f3))).trans hx218_3; replace hx218_4 := (cell_far (p := ⟨gb217, 3, none⟩) zb8_4 (.int .i64 ((rd_T33 l0 x22_2).f3))).trans hx218_4; replace hx218_0 := (cell_far (p := ⟨gb217, 4, none⟩) zb9_4 (.bool false)).trans hx218_0; replace hx218_1 := (cell_far (p := ⟨gb217, 4, none⟩) zb9_4 (.bool false)).trans hx218_1; replace hx218_2 := (cell_far (p := ⟨gb217, 4, none⟩) zb9_4 (.bool false)).trans hx218_2; replace hx218_3 := (cell_far (p := ⟨gb217, 4, none⟩) zb9_4 (.bool false)).trans hx218_3; replace hx218_4 := (cell_far (p := ⟨gb217, 4, none⟩) zb9_4 (.bool false)).trans hx218_4; (try have hy218_0 := fun (n_ : Nat) => (show (((((((w20.drewN n_).setCell ⟨gb217, 0, none⟩ (.string ((rd_T33 l0 x22_2).f0))).setCell ⟨gb217, 1, none⟩ (.string ((rd_T33 l0 x22_2).f1))).setCell ⟨gb217, 2, none⟩ (.string ((rd_T33 l0 x22_2).f2))).setCell ⟨gb217, 3, none⟩ (.int .i64 ((rd_T33 l0 x22_2).f3))).setCell ⟨gb217, 4, none⟩ (.bool false))).cell? _ = some _ from hx218_0)); (try have hy218_1 := fun (n_ : Nat) => (show (((((((w20.drewN n_).setCell ⟨gb217, 0, none⟩ (.string ((rd_T33 l0 x22_2).f0))).setCell ⟨gb217, 1, none⟩ (.string ((rd_T33 l0 x22_2).f1))).setCell ⟨gb217, 2, none⟩ (.string ((rd_T33 l0 x22_2).f2))).setCell ⟨gb217, 3, none⟩ (.int .i64 ((rd_T33 l0 x22_2).f3))).setCell ⟨gb217, 4, none⟩ (.bool false))).cell? _ = some _ from hx218_1)); (try have hy218_2 := fun (n_ : Nat) => (show (((((((w20.drewN n_).setCell ⟨gb217, 0, none⟩ (.string ((rd_T33 l0 x22_2).f0))).setCell ⟨gb217, 1, none⟩ (.string ((rd_T33 l0 x22_2).f1))).setCell ⟨gb217, 2, none⟩ (.string ((rd_T33 l0 x22_2).f2))).setCell ⟨gb217, 3, none⟩ (.int .i64 ((rd_T33 l0 x22_2).f3))).setCell ⟨gb217, 4, none⟩ (.bool false))).cell? _ = some _ from hx218_2)); (try have hy218_3 := fun (n_ : Nat) => (show (((((((w20.drewN n_).setCell ⟨gb217, 0, none⟩ (.string ((rd_T33 l0 x22_2).f0))).setCell ⟨gb217, 1, none⟩ (.string ((rd_T33 l0 x22_2).f1))).setCell ⟨gb217, 2, none⟩ (.string ((rd_T33 l0 x22_2).f2))).setCell ⟨gb217, 3, none⟩ (.int .i64 ((rd_T33 l0 x22_2).f3))).setCell ⟨gb217, 4, none⟩ (.bool false))).cell? _ = some _ from hx218_3)); (try have hy218_4 := fun (n_ : Nat) => (show (((((((w20.drewN n_).setCell ⟨gb217, 0, none⟩ (.string ((rd_T33 l0 x22_2).f0))).setCell ⟨gb217, 1, none⟩ (.string ((rd_T33 l0 x22_2).f1))).setCell ⟨gb217, 2, none⟩ (.string ((rd_T33 l0 x22_2).f2))).setCell ⟨gb217, 3, none⟩ (.int .i64 ((rd_T33 l0 x22_2).f3))).setCell ⟨gb217, 4, none⟩ (.bool false))).cell? _ = some _ from hx218_4)); clear hn218_0; clear hn218_1; clear hn218_2; clear hn218_3; clear hn218_4; replace p218 := eq_true p218; replace q218 := eq_true q218))
              repeat (go_quiet (first | ((with_reducible refine gate_dst (N := 6) rfl ?_); (try (refine gate_guard (by rfl) ?_; dsimp only)); refine box_event ?hg (N := 6) ?hd (cs := #[.string (⟨#[]⟩ : ByteArray), .string (⟨#[]⟩ : ByteArray), .string (⟨#[]⟩ : ByteArray), .int .i64 0, .bool false]) (t := 33) ?hr ?_; (case hd => rfl); (case hg => rfl); (case hr => first | (go_simp; done) | (go_simp; rfl)); intro gb217 hg w20 hbox hb; have n0_ := Aside0.mk (below_step zb2_4 hb); have n1_ := Aside0.mk (hbox); have n2_ := Aside0.mk ((zb3_4 : w.heap.size ≤ gb217)); have n3_ := Aside0.mk ((zb3_4 : w.heap.size ≤ gb217)); clear HB; have HB := n0_; have BK217 := n1_; have GW217 := n2_; have GE217 := n3_; clear n0_ n1_ n2_ n3_; clear hb hbox hg; have hcz21_0 := bcq_4 BK217.out 0; have hcz21_1 := bcq_4 BK217.out 1; have hcz21_2 := bcq_4 BK217.out 2; have hcz21_3 := bcq_4 BK217.out 3; have hcz21_4 := bcq_4 BK217.out 4; have hfz21_0 := blk_frozen BK217.out 0; have hfz21_1 := blk_frozen BK217.out 1; have hfz21_2 := blk_frozen BK217.out 2; have hfz21_3 := blk_frozen BK217.out 3; have hfz21_4 := blk_frozen BK217.out 4; have p218 : 0 ≤ ((ji14) : Int) := of_decide_eq_true zb1_4; have q218 : (ji14) < (l0.length : Int) := of_decide_eq_true zb1_4; obtain ⟨ad218, e218, hx218_0, hx218_1, hx218_2, hx218_3, hx218_4⟩ := at_T33 HR0.out (ji14) p218 q218; (try rw [← Nbq9.out] at hx218_4); obtain rfl : ad216 = ad218 := (by injection e218); have hn218_0 : ad216.block ≠ gb217 := Nat.ne_of_lt (Nat.lt_of_lt_of_le zb4_4 GW217.out); have hn218_1 : ad216.block ≠ gb217 := Nat.ne_of_lt (Nat.lt_of_lt_of_le zb4_4 GW217.out); have hn218_2 : ad216.block ≠ gb217 := Nat.ne_of_lt (Nat.lt_of_lt_of_le zb4_4 GW217.out); have hn218_3 : ad216.block ≠ gb217 := Nat.ne_of_lt (Nat.lt_of_lt_of_le zb4_4 GW217.out); have hn218_4 : ad216.block ≠ gb217 := Nat.ne_of_lt (Nat.lt_of_lt_of_le zb4_4 GW217.out); replace hx218_0 := (HB.out.cell (World.block_lt_of_cell? w _ hx218_0)).trans hx218_0; replace hx218_1 := (HB.out.cell (World.block_lt_of_cell? w _ hx218_1)).trans hx218_1; replace hx218_2 := (HB.out.cell (World.block_lt_of_cell? w _ hx218_2)).trans hx218_2; replace hx218_3 := (HB.out.cell (World.block_lt_of_cell? w _ hx218_3)).trans hx218_3; replace hx218_4 := (HB.out.cell (World.block_lt_of_cell? w _ hx218_4)).trans hx218_4; replace hx218_0 := (cell_far (p := ⟨gb217, 0, none⟩) zb5_4 (.string ((rd_T33 l0 x22_2).f0))).trans hx218_0; replace hx218_1 := (cell_far (p := ⟨gb217, 0, none⟩) zb5_4 (.string ((rd_T33 l0 x22_2).f0))).trans hx218_1; replace hx218_2 := (cell_far (p := ⟨gb217, 0, none⟩) zb5_4 (.string ((rd_T33 l0 x22_2).f0))).trans hx218_2; replace hx218_3 := (cell_far (p := ⟨gb217, 0, none⟩) zb5_4 (.string ((rd_T33 l0 x22_2).f0))).trans hx218_3; replace hx218_4 := (cell_far (p := ⟨gb217, 0, none⟩) zb5_4 (.string ((rd_T33 l0 x22_2).f0))).trans hx218_4; replace hx218_0 := (cell_far (p := ⟨gb217, 1, none⟩) zb6_4 (.string ((rd_T33 l0 x22_2).f1))).trans hx218_0; replace hx218_1 := (cell_far (p := ⟨gb217, 1, none⟩) zb6_4 (.string ((rd_T33 l0 x22_2).f1))).trans hx218_1; replace hx218_2 := (cell_far (p := ⟨gb217, 1, none⟩) zb6_4 (.string ((rd_T33 l0 x22_2).f1))).trans hx218_2; replace hx218_3 := (cell_far (p := ⟨gb217, 1, none⟩) zb6_4 (.string ((rd_T33 l0 x22_2).f1))).trans hx218_3; replace hx218_4 := (cell_far (p := ⟨gb217, 1, none⟩) zb6_4 (.string ((rd_T33 l0 x22_2).f1))).trans hx218_4; replace hx218_0 := (cell_far (p := ⟨gb217, 2, none⟩) zb7_4 (.string ((rd_T33 l0 x22_2).f2))).trans hx218_0; replace hx218_1 := (cell_far (p := ⟨gb217, 2, none⟩) zb7_4 (.string ((rd_T33 l0 x22_2).f2))).trans hx218_1; replace hx218_2 := (cell_far (p := ⟨gb217, 2, none⟩) zb7_4 (.string ((rd_T33 l0 x22_2).f2))).trans hx218_2; replace hx218_3 := (cell_far (p := ⟨gb217, 2, none⟩) zb7_4 (.string ((rd_T33 l0 x22_2).f2))).trans hx218_3; replace hx218_4 := (cell_far (p := ⟨gb217, 2, none⟩) zb7_4 (.string ((rd_T33 l0 x22_2).f2))).trans hx218_4; replace hx218_0 := (cell_far (p := ⟨gb217, 3, none⟩) zb8_4 (.int .i64 ((rd_T33 l0 x22_2).f3))).trans hx218_0; replace hx218_1 := (cell_far (p := ⟨gb217, 3, none⟩) zb8_4 (.int .i64 ((rd_T33 l0 x22_2).f3))).trans hx218_1; replace hx218_2 := (cell_far (p := ⟨gb217, 3, none⟩) zb8_4 (.int .i64 ((rd_T33 l0 x22_2).f3))).trans hx218_2; replace hx218_3 := (cell_far (p := ⟨gb217, 3, none⟩) zb8_4 (.int .i64 ((rd_T33 l0 x22_2).f3))).trans hx218_3; replace hx218_4 := (cell_far (p := ⟨gb217, 3, none⟩) zb8_4 (.int .i64 ((rd_T33 l0 x22_2).f3))).trans hx218_4; replace hx218_0 := (cell_far (p := ⟨gb217, 4, none⟩) zb9_4 (.bool false)).trans hx218_0; replace hx218_1 := (cell_far (p := ⟨gb217, 4, none⟩) zb9_4 (.bool false)).trans hx218_1; replace hx218_2 := (cell_far (p := ⟨gb217, 4, none⟩) zb9_4 (.bool false)).trans hx218_2; replace hx218_3 := (cell_far (p := ⟨gb217, 4, none⟩) zb9_4 (.bool false)).trans hx218_3; replace hx218_4 := (cell_far (p := ⟨gb217, 4, none⟩) zb9_4 (.bool false)).trans hx218_4; (try have hy218_0 := fun (n_ : Nat) => (show (((((((w20.drewN n_).setCell ⟨gb217, 0, none⟩ (.string ((rd_T33 l0 x22_2).f0))).setCell ⟨gb217, 1, none⟩ (.string ((rd_T33 l0 x22_2).f1))).setCell ⟨gb217, 2, none⟩ (.string ((rd_T33 l0 x22_2).f2))).setCell ⟨gb217, 3, none⟩ (.int .i64 ((rd_T33 l0 x22_2).f3))).setCell ⟨gb217, 4, none⟩ (.bool false))).cell? _ = some _ from hx218_0)); (try have hy218_1 := fun (n_ : Nat) => (show (((((((w20.drewN n_).setCell ⟨gb217, 0, none⟩ (.string ((rd_T33 l0 x22_2).f0))).setCell ⟨gb217, 1, none⟩ (.string ((rd_T33 l0 x22_2).f1))).setCell ⟨gb217, 2, none⟩ (.string ((rd_T33 l0 x22_2).f2))).setCell ⟨gb217, 3, none⟩ (.int .i64 ((rd_T33 l0 x22_2).f3))).setCell ⟨gb217, 4, none⟩ (.bool false))).cell? _ = some _ from hx218_1)); (try have hy218_2 := fun (n_ : Nat) => (show (((((((w20.drewN n_).setCell ⟨gb217, 0, none⟩ (.string ((rd_T33 l0 x22_2).f0))).setCell ⟨gb217, 1, none⟩ (.string ((rd_T33 l0 x22_2).f1))).setCell ⟨gb217, 2, none⟩ (.string ((rd_T33 l0 x22_2).f2))).setCell ⟨gb217, 3, none⟩ (.int .i64 ((rd_T33 l0 x22_2).f3))).setCell ⟨gb217, 4, none⟩ (.bool false))).cell? _ = some _ from hx218_2)); (try have hy218_3 := fun (n_ : Nat) => (show (((((((w20.drewN n_).setCell ⟨gb217, 0, none⟩ (.string ((rd_T33 l0 x22_2).f0))).setCell ⟨gb217, 1, none⟩ (.string ((rd_T33 l0 x22_2).f1))).setCell ⟨gb217, 2, none⟩ (.string ((rd_T33 l0 x22_2).f2))).setCell ⟨gb217, 3, none⟩ (.int .i64 ((rd_T33 l0 x22_2).f3))).setCell ⟨gb217, 4, none⟩ (.bool false))).cell? _ = some _ from hx218_3)); (try have hy218_4 := fun (n_ : Nat) => (show (((((((w20.drewN n_).setCell ⟨gb217, 0, none⟩ (.string ((rd_T33 l0 x22_2).f0))).setCell ⟨gb217, 1, none⟩ (.string ((rd_T33 l0 x22_2).f1))).setCell ⟨gb217, 2, none⟩ (.string ((rd_T33 l0 x22_2).f2))).setCell ⟨gb217, 3, none⟩ (.int .i64 ((rd_T33 l0 x22_2).f3))).setCell ⟨gb217, 4, none⟩ (.bool false))).cell? _ = some _ from hx218_4)); clear hn218_0; clear hn218_1; clear hn218_2; clear hn218_3; clear hn218_4; replace p218 := eq_true p218; replace q218 := eq_true q218)); try go_wp2_with (first | ((with_reducible refine gate_dst (N := 6) rfl ?_); (try (refine gate_guard (by rfl) ?_; dsimp only)); refine box_event ?hg (N := 6) ?hd (cs := #[.string (⟨#[]⟩ : ByteArray), .string (⟨#[]⟩ : ByteArray), .string (⟨#[]⟩ : ByteArray), .int .i64 0, .bool false]) (t := 33) ?hr ?_; (case hd => rfl); (case hg => rfl); (case hr => first | (go_simp; done) | (go_simp; rfl)); intro gb217 hg w20 hbox hb; have n0_ := Aside0.mk (below_step zb2_4 hb); have n1_ := Aside0.mk (hbox); have n2_ := Aside0.mk ((zb3_4 : w.heap.size ≤ gb217)); have n3_ := Aside0.mk ((zb3_4 : w.heap.size ≤ gb217)); clear HB; have HB := n0_; have BK217 := n1_; have GW217 := n2_; have GE217 := n3_; clear n0_ n1_ n2_ n3_; clear hb hbox hg; have hcz21_0 := bcq_4 BK217.out 0; have hcz21_1 := bcq_4 BK217.out 1; have hcz21_2 := bcq_4 BK217.out 2; have hcz21_3 := bcq_4 BK217.out 3; have hcz21_4 := bcq_4 BK217.out 4; have hfz21_0 := blk_frozen BK217.out 0; have hfz21_1 := blk_frozen BK217.out 1; have hfz21_2 := blk_frozen BK217.out 2; have hfz21_3 := blk_frozen BK217.out 3; have hfz21_4 := blk_frozen BK217.out 4; have p218 : 0 ≤ ((ji14) : Int) := of_decide_eq_true zb1_4; have q218 : (ji14) < (l0.length : Int) := of_decide_eq_true zb1_4; obtain ⟨ad218, e218, hx218_0, hx218_1, hx218_2, hx218_3, hx218_4⟩ := at_T33 HR0.out (ji14) p218 q218; (try rw [← Nbq9.out] at hx218_4); obtain rfl : ad216 = ad218 := (by injection e218); have hn218_0 : ad216.block ≠ gb217 := Nat.ne_of_lt (Nat.lt_of_lt_of_le zb4_4 GW217.out); have hn218_1 : ad216.block ≠ gb217 := Nat.ne_of_lt (Nat.lt_of_lt_of_le zb4_4 GW217.out); have hn218_2 : ad216.block ≠ gb217 := Nat.ne_of_lt (Nat.lt_of_lt_of_le zb4_4 GW217.out); have hn218_3 : ad216.block ≠ gb217 := Nat.ne_of_lt (Nat.lt_of_lt_of_le zb4_4 GW217.out); have hn218_4 : ad216.block ≠ gb217 := Nat.ne_of_lt (Nat.lt_of_lt_of_le zb4_4 GW217.out); replace hx218_0 := (HB.out.cell (World.block_lt_of_cell? w _ hx218_0)).trans hx218_0; replace hx218_1 := (HB.out.cell (World.block_lt_of_cell? w _ hx218_1)).trans hx218_1; replace hx218_2 := (HB.out.cell (World.block_lt_of_cell? w _ hx218_2)).trans hx218_2; replace hx218_3 := (HB.out.cell (World.block_lt_of_cell? w _ hx218_3)).trans hx218_3; replace hx218_4 := (HB.out.cell (World.block_lt_of_cell? w _ hx218_4)).trans hx218_4; replace hx218_0 := (cell_far (p := ⟨gb217, 0, none⟩) zb5_4 (.string ((rd_T33 l0 x22_2).f0))).trans hx218_0; replace hx218_1 := (cell_far (p := ⟨gb217, 0, none⟩) zb5_4 (.string ((rd_T33 l0 x22_2).f0))).trans hx218_1; replace hx218_2 := (cell_far (p := ⟨gb217, 0, none⟩) zb5_4 (.string ((rd_T33 l0 x22_2).f0))).trans hx218_2; replace hx218_3 := (cell_far (p := ⟨gb217, 0, none⟩) zb5_4 (.string ((rd_T33 l0 x22_2).f0))).trans hx218_3; replace hx218_4 := (cell_far (p := ⟨gb217, 0, none⟩) zb5_4 (.string ((rd_T33 l0 x22_2).f0))).trans hx218_4; replace hx218_0 := (cell_far (p := ⟨gb217, 1, none⟩) zb6_4 (.string ((rd_T33 l0 x22_2).f1))).trans hx218_0; replace hx218_1 := (cell_far (p := ⟨gb217, 1, none⟩) zb6_4 (.string ((rd_T33 l0 x22_2).f1))).trans hx218_1; replace hx218_2 := (cell_far (p := ⟨gb217, 1, none⟩) zb6_4 (.string ((rd_T33 l0 x22_2).f1))).trans hx218_2; replace hx218_3 := (cell_far (p := ⟨gb217, 1, none⟩) zb6_4 (.string ((rd_T33 l0 x22_2).f1))).trans hx218_3; replace hx218_4 := (cell_far (p := ⟨gb217, 1, none⟩) zb6_4 (.string ((rd_T33 l0 x22_2).f1))).trans hx218_4; replace hx218_0 := (cell_far (p := ⟨gb217, 2, none⟩) zb7_4 (.string ((rd_T33 l0 x22_2).f2))).trans hx218_0; replace hx218_1 := (cell_far (p := ⟨gb217, 2, none⟩) zb7_4 (.string ((rd_T33 l0 x22_2).f2))).trans hx218_1; replace hx218_2 := (cell_far (p := ⟨gb217, 2, none⟩) zb7_4 (.string ((rd_T33 l0 x22_2).f2))).trans hx218_2; replace hx218_3 := (cell_far (p := ⟨gb217, 2, none⟩) zb7_4 (.string ((rd_T33 l0 x22_2).f2))).trans hx218_3; replace hx218_4 := (cell_far (p := ⟨gb217, 2, none⟩) zb7_4 (.string ((rd_T33 l0 x22_2).f2))).trans hx218_4; replace hx218_0 := (cell_far (p := ⟨gb217, 3, none⟩) zb8_4 (.int .i64 ((rd_T33 l0 x22_2).f3))).trans hx218_0; replace hx218_1 := (cell_far (p := ⟨gb217, 3, none⟩) zb8_4 (.int .i64 ((rd_T33 l0 x22_2).f3))).trans hx218_1; replace hx218_2 := (cell_far (p := ⟨gb217, 3, none⟩) zb8_4 (.int .i64 ((rd_T33 l0 x22_2).f3))).trans hx218_2; replace hx218_3 := (cell_far (p := ⟨gb217, 3, none⟩) zb8_4 (.int .i64 ((rd_T33 l0 x22_2).f3))).trans hx218_3; replace hx218_4 := (cell_far (p := ⟨gb217, 3, none⟩) zb8_4 (.int .i64 ((rd_T33 l0 x22_2).f3))).trans hx218_4; replace hx218_0 := (cell_far (p := ⟨gb217, 4, none⟩) zb9_4 (.bool false)).trans hx218_0; replace hx218_1 := (cell_far (p := ⟨gb217, 4, none⟩) zb9_4 (.bool false)).trans hx218_1; replace hx218_2 := (cell_far (p := ⟨gb217, 4, none⟩) zb9_4 (.bool false)).trans hx218_2; replace hx218_3 := (cell_far (p := ⟨gb217, 4, none⟩) zb9_4 (.bool false)).trans hx218_3; replace hx218_4 := (cell_far (p := ⟨gb217, 4, none⟩) zb9_4 (.bool false)).trans hx218_4; (try have hy218_0 := fun (n_ : Nat) => (show (((((((w20.drewN n_).setCell ⟨gb217, 0, none⟩ (.string ((rd_T33 l0 x22_2).f0))).setCell ⟨gb217, 1, none⟩ (.string ((rd_T33 l0 x22_2).f1))).setCell ⟨gb217, 2, none⟩ (.string ((rd_T33 l0 x22_2).f2))).setCell ⟨gb217, 3, none⟩ (.int .i64 ((rd_T33 l0 x22_2).f3))).setCell ⟨gb217, 4, none⟩ (.bool false))).cell? _ = some _ from hx218_0)); (try have hy218_1 := fun (n_ : Nat) => (show (((((((w20.drewN n_).setCell ⟨gb217, 0, none⟩ (.string ((rd_T33 l0 x22_2).f0))).setCell ⟨gb217, 1, none⟩ (.string ((rd_T33 l0 x22_2).f1))).setCell ⟨gb217, 2, none⟩ (.string ((rd_T33 l0 x22_2).f2))).setCell ⟨gb217, 3, none⟩ (.int .i64 ((rd_T33 l0 x22_2).f3))).setCell ⟨gb217, 4, none⟩ (.bool false))).cell? _ = some _ from hx218_1)); (try have hy218_2 := fun (n_ : Nat) => (show (((((((w20.drewN n_).setCell ⟨gb217, 0, none⟩ (.string ((rd_T33 l0 x22_2).f0))).setCell ⟨gb217, 1, none⟩ (.string ((rd_T33 l0 x22_2).f1))).setCell ⟨gb217, 2, none⟩ (.string ((rd_T33 l0 x22_2).f2))).setCell ⟨gb217, 3, none⟩ (.int .i64 ((rd_T33 l0 x22_2).f3))).setCell ⟨gb217, 4, none⟩ (.bool false))).cell? _ = some _ from hx218_2)); (try have hy218_3 := fun (n_ : Nat) => (show (((((((w20.drewN n_).setCell ⟨gb217, 0, none⟩ (.string ((rd_T33 l0 x22_2).f0))).setCell ⟨gb217, 1, none⟩ (.string ((rd_T33 l0 x22_2).f1))).setCell ⟨gb217, 2, none⟩ (.string ((rd_T33 l0 x22_2).f2))).setCell ⟨gb217, 3, none⟩ (.int .i64 ((rd_T33 l0 x22_2).f3))).setCell ⟨gb217, 4, none⟩ (.bool false))).cell? _ = some _ from hx218_3)); (try have hy218_4 := fun (n_ : Nat) => (show (((((((w20.drewN n_).setCell ⟨gb217, 0, none⟩ (.string ((rd_T33 l0 x22_2).f0))).setCell ⟨gb217, 1, none⟩ (.string ((rd_T33 l0 x22_2).f1))).setCell ⟨gb217, 2, none⟩ (.string ((rd_T33 l0 x22_2).f2))).setCell ⟨gb217, 3, none⟩ (.int .i64 ((rd_T33 l0 x22_2).f3))).setCell ⟨gb217, 4, none⟩ (.bool false))).cell? _ = some _ from hx218_4)); clear hn218_0; clear hn218_1; clear hn218_2; clear hn218_3; clear hn218_4; replace p218 := eq_true p218; replace q218 := eq_true q218)))
              go_ret
              exact ⟨_, by first | rfl | (simp [errW_none, errW_some] <;> rfl) | (simp only [← hji14]; first | rfl | (simp [errW_none, errW_some] <;> rfl)) | (simp [*, errW_none, errW_some] <;> rfl), by first | exact Kd.R_nil _ _ _ _ _ | exact Kd.N_nil _ _ _ _ _ | exact Kd.V_nil _ _ _ _ _ | exact Kd.Q_nil _ _ _ _ _ | exact Kd.S_nil _ _ _ _ _, by repeat (first | (with_reducible first | exact HB.out | apply below_alloc | apply pw_below_drewN | apply below_drew1 | refine below_set ?_ GE217.out) | exact HB.out)⟩
            ·
             rw [if_neg c16] at H
             exact absurd H (by simp)
           ·
            rw [if_neg c15] at H
            exact absurd H (by simp)
          ·
           rw [if_neg c13] at H
           have c13b0 : decide (0 < x22_2) = false := decide_eq_false c13
           clear c13
           have H' := Aside0.mk H
           clear H
           have p216 : 0 ≤ (x22_2 : Int) := of_decide_eq_true zb1_4
           have q216 : x22_2 < (l0.length : Int) := of_decide_eq_true zb1_4
           obtain ⟨ad216, e216, hx216_0, hx216_1, hx216_2, hx216_3, hx216_4⟩ := at_T33 HR0.out x22_2 p216 q216
           (try rw [← Nbq9.out] at hx216_4)
           (try rw [← Nbq9.out] at hw216_4)
           cases e216
           replace hx216_0 := (HB.out.cell (World.block_lt_of_cell? w _ hx216_0)).trans hx216_0
           replace hx216_1 := (HB.out.cell (World.block_lt_of_cell? w _ hx216_1)).trans hx216_1
           replace hx216_2 := (HB.out.cell (World.block_lt_of_cell? w _ hx216_2)).trans hx216_2
           replace hx216_3 := (HB.out.cell (World.block_lt_of_cell? w _ hx216_3)).trans hx216_3
           replace hx216_4 := (HB.out.cell (World.block_lt_of_cell? w _ hx216_4)).trans hx216_4
           replace p216 := eq_true p216
           replace q216 := eq_true q216
           go_wp2_with (first | ((with_reducible refine gate_dst (N := 6) rfl ?_); (try (refine gate_guard (by rfl) ?_; dsimp only)); refine box_event ?hg (N := 6) ?hd (cs := #[.string (⟨#[]⟩ : ByteArray), .string (⟨#[]⟩ : ByteArray), .string (⟨#[]⟩ : ByteArray), .int .i64 0, .bool false]) (t := 33) ?hr ?_; (case hd => rfl); (case hg => rfl); (case hr => first | (go_simp; done) | (go_simp; rfl)); intro gb217 hg w22 hbox hb; have n0_ := Aside0.mk (below_step zb2_4 hb); have n1_ := Aside0.mk (hbox); have n2_ := Aside0.mk ((zb3_4 : w.heap.size ≤ gb217)); have n3_ := Aside0.mk ((zb3_4 : w.heap.size ≤ gb217)); clear HB; have HB := n0_; have BK217 := n1_; have GW217 := n2_; have GE217 := n3_; clear n0_ n1_ n2_ n3_; clear hb hbox hg; have hcz23_0 := bcq_4 BK217.out 0; have hcz23_1 := bcq_4 BK217.out 1; have hcz23_2 := bcq_4 BK217.out 2; have hcz23_3 := bcq_4 BK217.out 3; have hcz23_4 := bcq_4 BK217.out 4; have hfz23_0 := blk_frozen BK217.out 0; have hfz23_1 := blk_frozen BK217.out 1; have hfz23_2 := blk_frozen BK217.out 2; have hfz23_3 := blk_frozen BK217.out 3; have hfz23_4 := blk_frozen BK217.out 4))
           repeat (go_quiet (first | ((with_reducible refine gate_dst (N := 6) rfl ?_); (try (refine gate_guard (by rfl) ?_; dsimp only)); refine box_event ?hg (N := 6) ?hd (cs := #[.string (⟨#[]⟩ : ByteArray), .string (⟨#[]⟩ : ByteArray), .string (⟨#[]⟩ : ByteArray), .int .i64 0, .bool false]) (t := 33) ?hr ?_; (case hd => rfl); (case hg => rfl); (case hr => first | (go_simp; done) | (go_simp; rfl)); intro gb217 hg w22 hbox hb; have n0_ := Aside0.mk (below_step zb2_4 hb); have n1_ := Aside0.mk (hbox); have n2_ := Aside0.mk ((zb3_4 : w.heap.size ≤ gb217)); have n3_ := Aside0.mk ((zb3_4 : w.heap.size ≤ gb217)); clear HB; have HB := n0_; have BK217 := n1_; have GW217 := n2_; have GE217 := n3_; clear n0_ n1_ n2_ n3_; clear hb hbox hg; have hcz23_0 := bcq_4 BK217.out 0; have hcz23_1 := bcq_4 BK217.out 1; have hcz23_2 := bcq_4 BK217.out 2; have hcz23_3 := bcq_4 BK217.out 3; have hcz23_4 := bcq_4 BK217.out 4; have hfz23_0 := blk_frozen BK217.out 0; have hfz23_1 := blk_frozen BK217.out 1; have hfz23_2 := blk_frozen BK217.out 2; have hfz23_3 := blk_frozen BK217.out 3; have hfz23_4 := blk_frozen BK217.out 4)); try go_wp2_with (first | ((with_reducible refine gate_dst (N := 6) rfl ?_); (try (refine gate_guard (by rfl) ?_; dsimp only)); refine box_event ?hg (N := 6) ?hd (cs := #[.string (⟨#[]⟩ : ByteArray), .string (⟨#[]⟩ : ByteArray), .string (⟨#[]⟩ : ByteArray), .int .i64 0, .bool false]) (t := 33) ?hr ?_; (case hd => rfl); (case hg => rfl); (case hr => first | (go_simp; done) | (go_simp; rfl)); intro gb217 hg w22 hbox hb; have n0_ := Aside0.mk (below_step zb2_4 hb); have n1_ := Aside0.mk (hbox); have n2_ := Aside0.mk ((zb3_4 : w.heap.size ≤ gb217)); have n3_ := Aside0.mk ((zb3_4 : w.heap.size ≤ gb217)); clear HB; have HB := n0_; have BK217 := n1_; have GW217 := n2_; have GE217 := n3_; clear n0_ n1_ n2_ n3_; clear hb hbox hg; have hcz23_0 := bcq_4 BK217.out 0; have hcz23_1 := bcq_4 BK217.out 1; have hcz23_2 := bcq_4 BK217.out 2; have hcz23_3 := bcq_4 BK217.out 3; have hcz23_4 := bcq_4 BK217.out 4; have hfz23_0 := blk_frozen BK217.out 0; have hfz23_1 := blk_frozen BK217.out 1; have hfz23_2 := blk_frozen BK217.out 2; have hfz23_3 := blk_frozen BK217.out 3; have hfz23_4 := blk_frozen BK217.out 4)))
           go_roundg k2
           case measure => have := HJ2.out; have := HK2.out; omega
           case rel => exact ⟨(wrap64 (x22_2 + 1)), zb0_4, H', ⟨by have := HJ2.out; have := HK2.out; omega⟩, ⟨by repeat (first | (with_reducible first | exact HB.out | apply below_alloc | apply pw_below_drewN | apply below_drew1 | refine below_set ?_ GE217.out) | exact HB.out)⟩⟩
        ·
         rw [if_neg c8] at H
         exact absurd H (by simp)
       ·
        rw [if_neg c7] at H
        exact absurd H (by simp)
      ·
       rw [if_neg c6] at H
       have c6b0 : decide (x22_2 < (l0.length : Int)) = false := decide_eq_false c6
       clear c6
       replace H := Option.bind_eq_some_iff.mp H
       obtain ⟨t219, A240, H⟩ := H
       replace H : (impl_RosterFollow.l1 k2 t219 l1 (l1.length : Int) 0) = some r := H
       have A24 := Aside0.mk A240
       clear A240
       have H' := Aside0.mk H
       clear H
       go_wp2_with (first | (go_at_call 15; (with_reducible refine (impl_Item_15.calls _ _ l0 t219 _ ?side1 ?side2 A24.out).mono ?_); (case side1 => repeat (first | exact (Kd.C_below HR0.out HB.out) | (with_reducible refine Kd.C_alloc ?_ _) | (with_reducible refine Kd.C_drewN ?_ _) | (with_reducible refine Kd.C_drew ?_))); (case side2 => exact HC0.out); rintro e w25 ⟨v220, rfl, ho0, hb⟩; have n0_ := Aside0.mk (Kd.R_lower ho0 (below_size zb2_4)); have n1_ := Aside0.mk (below_step zb2_4 hb); clear HB; have HO221 := n0_; have HB := n1_; clear n0_ n1_; (try clear hb); (try clear hb2); (try clear hk); (try clear hi); (try clear ho0)))
       repeat (go_quiet (first | (go_at_call 15; (with_reducible refine (impl_Item_15.calls _ _ l0 t219 _ ?side1 ?side2 A24.out).mono ?_); (case side1 => repeat (first | exact (Kd.C_below HR0.out HB.out) | (with_reducible refine Kd.C_alloc ?_ _) | (with_reducible refine Kd.C_drewN ?_ _) | (with_reducible refine Kd.C_drew ?_))); (case side2 => exact HC0.out); rintro e w25 ⟨v220, rfl, ho0, hb⟩; have n0_ := Aside0.mk (Kd.R_lower ho0 (below_size zb2_4)); have n1_ := Aside0.mk (below_step zb2_4 hb); clear HB; have HO221 := n0_; have HB := n1_; clear n0_ n1_; (try clear hb); (try clear hb2); (try clear hk); (try clear hi); (try clear ho0))); try go_wp2_with (first | (go_at_call 15; (with_reducible refine (impl_Item_15.calls _ _ l0 t219 _ ?side1 ?side2 A24.out).mono ?_); (case side1 => repeat (first | exact (Kd.C_below HR0.out HB.out) | (with_reducible refine Kd.C_alloc ?_ _) | (with_reducible refine Kd.C_drewN ?_ _) | (with_reducible refine Kd.C_drew ?_))); (case side2 => exact HC0.out); rintro e w25 ⟨v220, rfl, ho0, hb⟩; have n0_ := Aside0.mk (Kd.R_lower ho0 (below_size zb2_4)); have n1_ := Aside0.mk (below_step zb2_4 hb); clear HB; have HO221 := n0_; have HB := n1_; clear n0_ n1_; (try clear hb); (try clear hb2); (try clear hk); (try clear hi); (try clear ho0))))
       go_loopg [7, 49] k2 (fun kq v7 v49 w' => ∃ (x7_3 : List (S33)) (x49_3 : Int), v49 = .int .i64 x49_3 ∧ Aside0 (impl_RosterFollow.l1 kq x7_3 l1 (l1.length : Int) x49_3 = some r) ∧ Aside0 (kq ≤ k2) ∧ Aside0 (Kd.R k33 33 w' w.heap.size (fun _ => True) v7 x7_3) ∧ Aside0 (Below w.heap.size w w'))
       case atStart => exact ⟨(t219), (0), zb0_4, H', ⟨Nat.le_refl _⟩, ⟨by (with_reducible repeat (first | apply Kd.R_alloc | apply Kd.R_drewN | apply Kd.R_drew)); exact HO221.out⟩, ⟨by repeat (first | (with_reducible first | exact HB.out | apply below_alloc | apply pw_below_drewN | apply below_drew1) | exact HB.out)⟩⟩
       case round =>
        clear H'
        try clear c1
        try clear p2
        try clear q2
        try clear hx2
        try clear c4
        try clear c4b0
        try clear c4b1
        try clear c5
        try clear c6
        try clear c6b0
        try clear p6
        try clear c7
        try clear c7b0
        try clear c8
        try clear c8b0
        try clear q9
        try clear c10
        try clear c13
        try clear c13b0
        try clear c15
        try clear c15b0
        try clear c16
        try clear c16b0
        try clear c17
        try clear c17b0
        try clear p21
        try clear q21
        try clear hx21
        try clear hcz12_0
        try clear hcz12_1
        try clear hcz12_2
        try clear hcz12_3
        try clear hcz12_4
        try clear hcz19_0
        try clear hcz19_1
        try clear hcz19_2
        try clear hcz19_3
        try clear hcz19_4
        try clear hcz21_0
        try clear hcz21_1
        try clear hcz21_2
        try clear hcz21_3
        try clear hcz21_4
        try clear hcz23_0
        try clear hcz23_1
        try clear hcz23_2
        try clear hcz23_3
        try clear hcz23_4
        try clear hfz12_0
        try clear hfz12_1
        try clear hfz12_2
        try clear hfz12_3
        try clear hfz12_4
        try clear hfz19_0
        try clear hfz19_1
        try clear hfz19_2
        try clear hfz19_3
        try clear hfz19_4
        try clear hfz21_0
        try clear hfz21_1
        try clear hfz21_2
        try clear hfz21_3
        try clear hfz21_4
        try clear hfz23_0
        try clear hfz23_1
        try clear hfz23_2
        try clear hfz23_3
        try clear hfz23_4
        try clear hx216_0
        try clear hx216_1
        try clear hx216_2
        try clear hx216_3
        try clear hx216_4
        try clear hx218_0
        try clear hx218_1
        try clear hx218_2
        try clear hx218_3
        try clear hx218_4
        try clear p2
        try clear p216
        try clear p218
        try clear q216
        try clear q218
        obtain ⟨x7_3, x49_3, rfl, HA, HK3, HO_7, HB⟩ := hrel
        cases gk with
        | zero => exact absurd HA.out (by simp [impl_RosterFollow.l1])
        | succ k3 =>
         have H := HA.out
         clear HA
         simp only [impl_RosterFollow.l1] at H
         by_cases c26 : x49_3 < (l1.length : Int)
         ·
          rw [if_pos c26] at H
          have c26b0 : decide (x49_3 < (l1.length : Int)) = true := decide_eq_true c26
          clear c26
          by_cases c27 : 0 ≤ x49_3
          ·
           rw [if_pos c27] at H
           have c27b0 : decide (0 ≤ x49_3) = true := decide_eq_true c27
           clear c27
           by_cases c28 : x49_3 < (l1.length : Int)
           ·
            rw [if_pos c28] at H
            have c28b0 : decide (x49_3 < (l1.length : Int)) = true := decide_eq_true c28
            clear c28
            obtain ⟨bq29, hbq29⟩ : ∃ b_ : Bool, b_ = ((rd_T33 l1 x49_3).f4) := ⟨_, rfl⟩
            replace H : (if (bq29 = true) then ((impl_itemAt.f x7_3 ((rd_T33 l1 x49_3).f0)).bind fun bt224 => (if bt224.2 = true then ((impl_Item_18.f x7_3 bt224.1 (wrap64 (bt224.1 + 1))).bind fun t226 => (impl_RosterFollow.l1 k3 t226 l1 (l1.length : Int) (wrap64 (x49_3 + 1)))) else (impl_RosterFollow.l1 k3 x7_3 l1 (l1.length : Int) (wrap64 (x49_3 + 1))))) else ((impl_placed.f x7_3 ((rd_T33 l1 x49_3).f0) ((rd_T33 l1 x49_3).f1) ((rd_T33 l1 x49_3).f2) ((rd_T33 l1 x49_3).f3) (bq29)).bind fun t229 => (impl_RosterFollow.l1 k3 t229 l1 (l1.length : Int) (wrap64 (x49_3 + 1))))) = some r := by rw [← hbq29] at H; exact H
            have Nbq29 := Aside0.mk hbq29
            clear hbq29
            by_cases c30 : (bq29 = true)
            ·
             subst c30
             have H1 : ((impl_itemAt.f x7_3 ((rd_T33 l1 x49_3).f0)).bind fun bt224 => (if bt224.2 = true then ((impl_Item_18.f x7_3 bt224.1 (wrap64 (bt224.1 + 1))).bind fun t226 => (impl_RosterFollow.l1 k3 t226 l1 (l1.length : Int) (wrap64 (x49_3 + 1)))) else (impl_RosterFollow.l1 k3 x7_3 l1 (l1.length : Int) (wrap64 (x49_3 + 1))))) = some r := by rw [if_pos rfl] at H; exact H
             clear H
             have H := H1
             clear H1
             replace H := Option.bind_eq_some_iff.mp H
             obtain ⟨⟨t224, t225⟩, A310, H⟩ := H
             replace H : (if t225 = true then ((impl_Item_18.f x7_3 t224 (wrap64 (t224 + 1))).bind fun t226 => (impl_RosterFollow.l1 k3 t226 l1 (l1.length : Int) (wrap64 (x49_3 + 1)))) else (impl_RosterFollow.l1 k3 x7_3 l1 (l1.length : Int) (wrap64 (x49_3 + 1)))) = some r := H
             have A31 := Aside0.mk A310
             clear A310
             by_cases c32 : t225 = true
             ·
              subst c32
              have H1 : ((impl_Item_18.f x7_3 t224 (wrap64 (t224 + 1))).bind fun t226 => (impl_RosterFollow.l1 k3 t226 l1 (l1.length : Int) (wrap64 (x49_3 + 1)))) = some r := by rw [if_pos rfl] at H; exact H
              clear H
              have H := H1
              clear H1
              replace H := Option.bind_eq_some_iff.mp H
              obtain ⟨t226, A330, H⟩ := H
              replace H : (impl_RosterFollow.l1 k3 t226 l1 (l1.length : Int) (wrap64 (x49_3 + 1))) = some r := H
              have A33 := Aside0.mk A330
              clear A330
              have H' := Aside0.mk H
              clear H
              have p222 : 0 ≤ (x49_3 : Int) := of_decide_eq_true zb1_4
              have q222 : x49_3 < (l1.length : Int) := of_decide_eq_true zb1_4
              obtain ⟨ad222, e222, hx222_0, hx222_1, hx222_2, hx222_3, hx222_4⟩ := at_T33 HR1.out x49_3 p222 q222
              (try rw [← Nbq29.out] at hx222_4)
              (try rw [← Nbq29.out] at hw222_4)
              cases e222
              replace hx222_0 := (HB.out.cell (World.block_lt_of_cell? w _ hx222_0)).trans hx222_0
              replace hx222_1 := (HB.out.cell (World.block_lt_of_cell? w _ hx222_1)).trans hx222_1
              replace hx222_2 := (HB.out.cell (World.block_lt_of_cell? w _ hx222_2)).trans hx222_2
              replace hx222_3 := (HB.out.cell (World.block_lt_of_cell? w _ hx222_3)).trans hx222_3
              replace hx222_4 := (HB.out.cell (World.block_lt_of_cell? w _ hx222_4)).trans hx222_4
              replace p222 := eq_true p222
              replace q222 := eq_true q222
              go_wp2_with (first | ((with_reducible refine gate_dst (N := 9) rfl ?_); (try (refine gate_guard (by rfl) ?_; dsimp only)); refine box_event ?hg (N := 9) ?hd (cs := #[.string (⟨#[]⟩ : ByteArray), .string (⟨#[]⟩ : ByteArray), .string (⟨#[]⟩ : ByteArray), .int .i64 0, .bool false]) (t := 33) ?hr ?_; (case hd => rfl); (case hg => rfl); (case hr => first | (go_simp; done) | (go_simp; rfl)); intro gb223 hg w34 hbox hb; have n0_ := Aside0.mk (Kd.R_below (Kd.R_elderB zb10_4 gb223 (Nat.le_of_eq hg.symm)) hb); have n1_ := Aside0.mk (below_step zb2_4 hb); have n2_ := Aside0.mk (hbox); have n3_ := Aside0.mk ((zb3_4 : w.heap.size ≤ gb223)); have n4_ := Aside0.mk ((zb3_4 : w.heap.size ≤ gb223)); clear HO_7; clear HB; have HO_7 := n0_; have HB := n1_; have BK223 := n2_; have GW223 := n3_; have GE223 := n4_; clear n0_ n1_ n2_ n3_ n4_; clear hb hbox hg; have hcz35_0 := bcq_4 BK223.out 0; have hcz35_1 := bcq_4 BK223.out 1; have hcz35_2 := bcq_4 BK223.out 2; have hcz35_3 := bcq_4 BK223.out 3; have hcz35_4 := bcq_4 BK223.out 4; have hfz35_0 := blk_frozen BK223.out 0; have hfz35_1 := blk_frozen BK223.out 1; have hfz35_2 := blk_frozen BK223.out 2; have hfz35_3 := blk_frozen BK223.out 3; have hfz35_4 := blk_frozen BK223.out 4; obtain ⟨Ao36, co36, eo36⟩ := Kd.R_slice HO_7.out; subst eo36) | (go_at_call 17; (with_reducible refine (impl_itemAt.calls _ _ x7_3 ((rd_T33 l1 x49_3).f0) t224 true _ ?side1 ?side2 A31.out).mono ?_); (case side1 => refine (Kd.R_reads' (e := 33) (base := w.heap.size) (ok := fun k_ => (True ∧ k_ ≠ gb223)) (n := x7_3.length) (c := co36) ?_).2.2; exact zb11_4); (case side2 => exact (Kd.R_reads' HO_7.out).2.1); rintro e w37 ⟨rfl, hb⟩; have n0_ := Aside0.mk (Kd.R_below zb11_4 hb); have n1_ := Aside0.mk (blk_below (g := gb223) (o := .cells #[.string ((rd_T33 l1 x49_3).f0), .string ((rd_T33 l1 x49_3).f1), .string ((rd_T33 l1 x49_3).f2), .int .i64 ((rd_T33 l1 x49_3).f3), .bool true] 33 (0, 0)) zb12_4 hb); have n2_ := Aside0.mk (below_step zb13_4 hb); clear HO_7; clear BK223; clear HB; have HO_7 := n0_; have BK223 := n1_; have HB := n2_; clear n0_ n1_ n2_; (try clear hb); (try clear hb2); (try clear hk); (try clear hi)) | (go_at_call 18; (with_reducible refine (impl_Item_18.calls (fun k_ => some k_ = (.slice Ao36 x7_3.length co36 : Value).ownBlock) (.slice Ao36 x7_3.length co36) x7_3 t224 (wrap64 (t224 + 1)) t226 w _ ?side1 ?side2 A33.out).mono ?_); (case side1 => repeat (first | (with_reducible first | exact HB.out | apply below_alloc | apply pw_below_drewN | apply below_drew1 | refine below_set ?_ GE223.out) | exact HB.out)); (case side2 => exact Kd.R_tight rfl HO_7.out); rintro e w38 ⟨v227, rfl, ho0, hb, hkp⟩; have n0_ := Aside0.mk (blk_kept zb14_4 hkp (fun hs_ => (fun e_ => (Kd.R_away HO_7.out (fun _ hk => hk.2)) e_) hs_)); have n1_ := Aside0.mk (Kd.R_mono (ok' := fun k_ => k_ ≠ gb223) ho0 (fun k_ hk_ => Or.elim hk_ (fun hs_ => fun e_ => (Kd.R_away HO_7.out (fun _ hk => hk.2)) (by rw [← e_]; exact hs_)) (fun hn_ => (Kd.freshB (g := gb223) (o := .cells #[.string ((rd_T33 l1 x49_3).f0), .string ((rd_T33 l1 x49_3).f1), .string ((rd_T33 l1 x49_3).f2), .int .i64 ((rd_T33 l1 x49_3).f3), .bool true] 33 (0, 0)) zb14_4 k_ hn_)))); have n2_ := Aside0.mk (hb); clear BK223; clear HB; clear HO_7; have BK223 := n0_; have HO228 := n1_; have HB := n2_; clear n0_ n1_ n2_; (try clear hb); (try clear hkp); (try clear ho0)))
              repeat (go_quiet (first | ((with_reducible refine gate_dst (N := 9) rfl ?_); (try (refine gate_guard (by rfl) ?_; dsimp only)); refine box_event ?hg (N := 9) ?hd (cs := #[.string (⟨#[]⟩ : ByteArray), .string (⟨#[]⟩ : ByteArray), .string (⟨#[]⟩ : ByteArray), .int .i64 0, .bool false]) (t := 33) ?hr ?_; (case hd => rfl); (case hg => rfl); (case hr => first | (go_simp; done) | (go_simp; rfl)); intro gb223 hg w34 hbox hb; have n0_ := Aside0.mk (Kd.R_below (Kd.R_elderB zb10_4 gb223 (Nat.le_of_eq hg.symm)) hb); have n1_ := Aside0.mk (below_step zb2_4 hb); have n2_ := Aside0.mk (hbox); have n3_ := Aside0.mk ((zb3_4 : w.heap.size ≤ gb223)); have n4_ := Aside0.mk ((zb3_4 : w.heap.size ≤ gb223)); clear HO_7; clear HB; have HO_7 := n0_; have HB := n1_; have BK223 := n2_; have GW223 := n3_; have GE223 := n4_; clear n0_ n1_ n2_ n3_ n4_; clear hb hbox hg; have hcz35_0 := bcq_4 BK223.out 0; have hcz35_1 := bcq_4 BK223.out 1; have hcz35_2 := bcq_4 BK223.out 2; have hcz35_3 := bcq_4 BK223.out 3; have hcz35_4 := bcq_4 BK223.out 4; have hfz35_0 := blk_frozen BK223.out 0; have hfz35_1 := blk_frozen BK223.out 1; have hfz35_2 := blk_frozen BK223.out 2; have hfz35_3 := blk_frozen BK223.out 3; have hfz35_4 := blk_frozen BK223.out 4; obtain ⟨Ao36, co36, eo36⟩ := Kd.R_slice HO_7.out; subst eo36) | (go_at_call 17; (with_reducible refine (impl_itemAt.calls _ _ x7_3 ((rd_T33 l1 x49_3).f0) t224 true _ ?side1 ?side2 A31.out).mono ?_); (case side1 => refine (Kd.R_reads' (e := 33) (base := w.heap.size) (ok := fun k_ => (True ∧ k_ ≠ gb223)) (n := x7_3.length) (c := co36) ?_).2.2; exact zb11_4); (case side2 => exact (Kd.R_reads' HO_7.out).2.1); rintro e w37 ⟨rfl, hb⟩; have n0_ := Aside0.mk (Kd.R_below zb11_4 hb); have n1_ := Aside0.mk (blk_below (g := gb223) (o := .cells #[.string ((rd_T33 l1 x49_3).f0), .string ((rd_T33 l1 x49_3).f1), .string ((rd_T33 l1 x49_3).f2), .int .i64 ((rd_T33 l1 x49_3).f3), .bool true] 33 (0, 0)) zb12_4 hb); have n2_ := Aside0.mk (below_step zb13_4 hb); clear HO_7; clear BK223; clear HB; have HO_7 := n0_; have BK223 := n1_; have HB := n2_; clear n0_ n1_ n2_; (try clear hb); (try clear hb2); (try clear hk); (try clear hi)) | (go_at_call 18; (with_reducible refine (impl_Item_18.calls (fun k_ => some k_ = (.slice Ao36 x7_3.length co36 : Value).ownBlock) (.slice Ao36 x7_3.length co36) x7_3 t224 (wrap64 (t224 + 1)) t226 w _ ?side1 ?side2 A33.out).mono ?_); (case side1 => repeat (first | (with_reducible first | exact HB.out | apply below_alloc | apply pw_below_drewN | apply below_drew1 | refine below_set ?_ GE223.out) | exact HB.out)); (case side2 => exact Kd.R_tight rfl HO_7.out); rintro e w38 ⟨v227, rfl, ho0, hb, hkp⟩; have n0_ := Aside0.mk (blk_kept zb14_4 hkp (fun hs_ => (fun e_ => (Kd.R_away HO_7.out (fun _ hk => hk.2)) e_) hs_)); have n1_ := Aside0.mk (Kd.R_mono (ok' := fun k_ => k_ ≠ gb223) ho0 (fun k_ hk_ => Or.elim hk_ (fun hs_ => fun e_ => (Kd.R_away HO_7.out (fun _ hk => hk.2)) (by rw [← e_]; exact hs_)) (fun hn_ => (Kd.freshB (g := gb223) (o := .cells #[.string ((rd_T33 l1 x49_3).f0), .string ((rd_T33 l1 x49_3).f1), .string ((rd_T33 l1 x49_3).f2), .int .i64 ((rd_T33 l1 x49_3).f3), .bool true] 33 (0, 0)) zb14_4 k_ hn_)))); have n2_ := Aside0.mk (hb); clear BK223; clear HB; clear HO_7; have BK223 := n0_; have HO228 := n1_; have HB := n2_; clear n0_ n1_ n2_; (try clear hb); (try clear hkp); (try clear ho0))); try go_wp2_with (first | ((with_reducible refine gate_dst (N := 9) rfl ?_); (try (refine gate_guard (by rfl) ?_; dsimp only)); refine box_event ?hg (N := 9) ?hd (cs := #[.string (⟨#[]⟩ : ByteArray), .string (⟨#[]⟩ : ByteArray), .string (⟨#[]⟩ : ByteArray), .int .i64 0, .bool false]) (t := 33) ?hr ?_; (case hd => rfl); (case hg => rfl); (case hr => first | (go_simp; done) | (go_simp; rfl)); intro gb223 hg w34 hbox hb; have n0_ := Aside0.mk (Kd.R_below (Kd.R_elderB zb10_4 gb223 (Nat.le_of_eq hg.symm)) hb); have n1_ := Aside0.mk (below_step zb2_4 hb); have n2_ := Aside0.mk (hbox); have n3_ := Aside0.mk ((zb3_4 : w.heap.size ≤ gb223)); have n4_ := Aside0.mk ((zb3_4 : w.heap.size ≤ gb223)); clear HO_7; clear HB; have HO_7 := n0_; have HB := n1_; have BK223 := n2_; have GW223 := n3_; have GE223 := n4_; clear n0_ n1_ n2_ n3_ n4_; clear hb hbox hg; have hcz35_0 := bcq_4 BK223.out 0; have hcz35_1 := bcq_4 BK223.out 1; have hcz35_2 := bcq_4 BK223.out 2; have hcz35_3 := bcq_4 BK223.out 3; have hcz35_4 := bcq_4 BK223.out 4; have hfz35_0 := blk_frozen BK223.out 0; have hfz35_1 := blk_frozen BK223.out 1; have hfz35_2 := blk_frozen BK223.out 2; have hfz35_3 := blk_frozen BK223.out 3; have hfz35_4 := blk_frozen BK223.out 4; obtain ⟨Ao36, co36, eo36⟩ := Kd.R_slice HO_7.out; subst eo36) | (go_at_call 17; (with_reducible refine (impl_itemAt.calls _ _ x7_3 ((rd_T33 l1 x49_3).f0) t224 true _ ?side1 ?side2 A31.out).mono ?_); (case side1 => refine (Kd.R_reads' (e := 33) (base := w.heap.size) (ok := fun k_ => (True ∧ k_ ≠ gb223)) (n := x7_3.length) (c := co36) ?_).2.2; exact zb11_4); (case side2 => exact (Kd.R_reads' HO_7.out).2.1); rintro e w37 ⟨rfl, hb⟩; have n0_ := Aside0.mk (Kd.R_below zb11_4 hb); have n1_ := Aside0.mk (blk_below (g := gb223) (o := .cells #[.string ((rd_T33 l1 x49_3).f0), .string ((rd_T33 l1 x49_3).f1), .string ((rd_T33 l1 x49_3).f2), .int .i64 ((rd_T33 l1 x49_3).f3), .bool true] 33 (0, 0)) zb12_4 hb); have n2_ := Aside0.mk (below_step zb13_4 hb); clear HO_7; clear BK223; clear HB; have HO_7 := n0_; have BK223 := n1_; have HB := n2_; clear n0_ n1_ n2_; (try clear hb); (try clear hb2); (try clear hk); (try clear hi)) | (go_at_call 18; (with_reducible refine (impl_Item_18.calls (fun k_ => some k_ = (.slice Ao36 x7_3.length co36 : Value).ownBlock) (.slice Ao36 x7_3.length co36) x7_3 t224 (wrap64 (t224 + 1)) t226 w _ ?side1 ?side2 A33.out).mono ?_); (case side1 => repeat (first | (with_reducible first | exact HB.out | apply below_alloc | apply pw_below_drewN | apply below_drew1 | refine below_set ?_ GE223.out) | exact HB.out)); (case side2 => exact Kd.R_tight rfl HO_7.out); rintro e w38 ⟨v227, rfl, ho0, hb, hkp⟩; have n0_ := Aside0.mk (blk_kept zb14_4 hkp (fun hs_ => (fun e_ => (Kd.R_away HO_7.out (fun _ hk => hk.2)) e_) hs_)); have n1_ := Aside0.mk (Kd.R_mono (ok' := fun k_ => k_ ≠ gb223) ho0 (fun k_ hk_ => Or.elim hk_ (fun hs_ => fun e_ => (Kd.R_away HO_7.out (fun _ hk => hk.2)) (by rw [← e_]; exact hs_)) (fun hn_ => (Kd.freshB (g := gb223) (o := .cells #[.string ((rd_T33 l1 x49_3).f0), .string ((rd_T33 l1 x49_3).f1), .string ((rd_T33 l1 x49_3).f2), .int .i64 ((rd_T33 l1 x49_3).f3), .bool true] 33 (0, 0)) zb14_4 k_ hn_)))); have n2_ := Aside0.mk (hb); clear BK223; clear HB; clear HO_7; have BK223 := n0_; have HO228 := n1_; have HB := n2_; clear n0_ n1_ n2_; (try clear hb); (try clear hkp); (try clear ho0))))
              go_roundg k3
              case measure => have := HJ2.out; have := HK2.out; have := HK3.out; omega
              case rel => exact ⟨(t226), (wrap64 (x49_3 + 1)), zb0_4, H', ⟨by have := HJ2.out; have := HK2.out; have := HK3.out; omega⟩, ⟨by (with_reducible repeat (first | apply Kd.R_alloc | apply Kd.R_drewN | apply Kd.R_drew)); exact Kd.R_mono HO228.out (fun _ hk => trivial)⟩, ⟨by repeat (first | (with_reducible first | exact HB.out | apply below_alloc | apply pw_below_drewN | apply below_drew1 | refine below_set ?_ GE223.out) | exact HB.out)⟩⟩
             ·
              replace c32 := Bool.eq_false_iff.mpr c32
              subst c32
              have H1 : (impl_RosterFollow.l1 k3 x7_3 l1 (l1.length : Int) (wrap64 (x49_3 + 1))) = some r := by rw [if_neg (show ¬ (false = true) by decide)] at H; exact H
              clear H
              have H := H1
              clear H1
              have H' := Aside0.mk H
              clear H
              have p222 : 0 ≤ (x49_3 : Int) := of_decide_eq_true zb1_4
              have q222 : x49_3 < (l1.length : Int) := of_decide_eq_true zb1_4
              obtain ⟨ad222, e222, hx222_0, hx222_1, hx222_2, hx222_3, hx222_4⟩ := at_T33 HR1.out x49_3 p222 q222
              (try rw [← Nbq29.out] at hx222_4)
              (try rw [← Nbq29.out] at hw222_4)
              cases e222
              replace hx222_0 := (HB.out.cell (World.block_lt_of_cell? w _ hx222_0)).trans hx222_0
              replace hx222_1 := (HB.out.cell (World.block_lt_of_cell? w _ hx222_1)).trans hx222_1
              replace hx222_2 := (HB.out.cell (World.block_lt_of_cell? w _ hx222_2)).trans hx222_2
              replace hx222_3 := (HB.out.cell (World.block_lt_of_cell? w _ hx222_3)).trans hx222_3
              replace hx222_4 := (HB.out.cell (World.block_lt_of_cell? w _ hx222_4)).trans hx222_4
              replace p222 := eq_true p222
              replace q222 := eq_true q222
              go_wp2_with (first | ((with_reducible refine gate_dst (N := 9) rfl ?_); (try (refine gate_guard (by rfl) ?_; dsimp only)); refine box_event ?hg (N := 9) ?hd (cs := #[.string (⟨#[]⟩ : ByteArray), .string (⟨#[]⟩ : ByteArray), .string (⟨#[]⟩ : ByteArray), .int .i64 0, .bool false]) (t := 33) ?hr ?_; (case hd => rfl); (case hg => rfl); (case hr => first | (go_simp; done) | (go_simp; rfl)); intro gb223 hg w39 hbox hb; have n0_ := Aside0.mk (Kd.R_below (Kd.R_elderB zb10_4 gb223 (Nat.le_of_eq hg.symm)) hb); have n1_ := Aside0.mk (below_step zb2_4 hb); have n2_ := Aside0.mk (hbox); have n3_ := Aside0.mk ((zb3_4 : w.heap.size ≤ gb223)); have n4_ := Aside0.mk ((zb3_4 : w.heap.size ≤ gb223)); clear HO_7; clear HB; have HO_7 := n0_; have HB := n1_; have BK223 := n2_; have GW223 := n3_; have GE223 := n4_; clear n0_ n1_ n2_ n3_ n4_; clear hb hbox hg; have hcz40_0 := bcq_4 BK223.out 0; have hcz40_1 := bcq_4 BK223.out 1; have hcz40_2 := bcq_4 BK223.out 2; have hcz40_3 := bcq_4 BK223.out 3; have hcz40_4 := bcq_4 BK223.out 4; have hfz40_0 := blk_frozen BK223.out 0; have hfz40_1 := blk_frozen BK223.out 1; have hfz40_2 := blk_frozen BK223.out 2; have hfz40_3 := blk_frozen BK223.out 3; have hfz40_4 := blk_frozen BK223.out 4; obtain ⟨Ao41, co41, eo41⟩ := Kd.R_slice HO_7.out; subst eo41) | (go_at_call 17; (with_reducible refine (impl_itemAt.calls _ _ x7_3 ((rd_T33 l1 x49_3).f0) t224 false _ ?side1 ?side2 A31.out).mono ?_); (case side1 => refine (Kd.R_reads' (e := 33) (base := w.heap.size) (ok := fun k_ => (True ∧ k_ ≠ gb223)) (n := x7_3.length) (c := co41) ?_).2.2; exact zb11_4); (case side2 => exact (Kd.R_reads' HO_7.out).2.1); rintro e w42 ⟨rfl, hb⟩; have n0_ := Aside0.mk (Kd.R_below zb11_4 hb); have n1_ := Aside0.mk (blk_below (g := gb223) (o := .cells #[.string ((rd_T33 l1 x49_3).f0), .string ((rd_T33 l1 x49_3).f1), .string ((rd_T33 l1 x49_3).f2), .int .i64 ((rd_T33 l1 x49_3).f3), .bool true] 33 (0, 0)) zb12_4 hb); have n2_ := Aside0.mk (below_step zb13_4 hb); clear HO_7; clear BK223; clear HB; have HO_7 := n0_; have BK223 := n1_; have HB := n2_; clear n0_ n1_ n2_; (try clear hb); (try clear hb2); (try clear hk); (try clear hi)))
              repeat (go_quiet (first | ((with_reducible refine gate_dst (N := 9) rfl ?_); (try (refine gate_guard (by rfl) ?_; dsimp only)); refine box_event ?hg (N := 9) ?hd (cs := #[.string (⟨#[]⟩ : ByteArray), .string (⟨#[]⟩ : ByteArray), .string (⟨#[]⟩ : ByteArray), .int .i64 0, .bool false]) (t := 33) ?hr ?_; (case hd => rfl); (case hg => rfl); (case hr => first | (go_simp; done) | (go_simp; rfl)); intro gb223 hg w39 hbox hb; have n0_ := Aside0.mk (Kd.R_below (Kd.R_elderB zb10_4 gb223 (Nat.le_of_eq hg.symm)) hb); have n1_ := Aside0.mk (below_step zb2_4 hb); have n2_ := Aside0.mk (hbox); have n3_ := Aside0.mk ((zb3_4 : w.heap.size ≤ gb223)); have n4_ := Aside0.mk ((zb3_4 : w.heap.size ≤ gb223)); clear HO_7; clear HB; have HO_7 := n0_; have HB := n1_; have BK223 := n2_; have GW223 := n3_; have GE223 := n4_; clear n0_ n1_ n2_ n3_ n4_; clear hb hbox hg; have hcz40_0 := bcq_4 BK223.out 0; have hcz40_1 := bcq_4 BK223.out 1; have hcz40_2 := bcq_4 BK223.out 2; have hcz40_3 := bcq_4 BK223.out 3; have hcz40_4 := bcq_4 BK223.out 4; have hfz40_0 := blk_frozen BK223.out 0; have hfz40_1 := blk_frozen BK223.out 1; have hfz40_2 := blk_frozen BK223.out 2; have hfz40_3 := blk_frozen BK223.out 3; have hfz40_4 := blk_frozen BK223.out 4; obtain ⟨Ao41, co41, eo41⟩ := Kd.R_slice HO_7.out; subst eo41) | (go_at_call 17; (with_reducible refine (impl_itemAt.calls _ _ x7_3 ((rd_T33 l1 x49_3).f0) t224 false _ ?side1 ?side2 A31.out).mono ?_); (case side1 => refine (Kd.R_reads' (e := 33) (base := w.heap.size) (ok := fun k_ => (True ∧ k_ ≠ gb223)) (n := x7_3.length) (c := co41) ?_).2.2; exact zb11_4); (case side2 => exact (Kd.R_reads' HO_7.out).2.1); rintro e w42 ⟨rfl, hb⟩; have n0_ := Aside0.mk (Kd.R_below zb11_4 hb); have n1_ := Aside0.mk (blk_below (g := gb223) (o := .cells #[.string ((rd_T33 l1 x49_3).f0), .string ((rd_T33 l1 x49_3).f1), .string ((rd_T33 l1 x49_3).f2), .int .i64 ((rd_T33 l1 x49_3).f3), .bool true] 33 (0, 0)) zb12_4 hb); have n2_ := Aside0.mk (below_step zb13_4 hb); clear HO_7; clear BK223; clear HB; have HO_7 := n0_; have BK223 := n1_; have HB := n2_; clear n0_ n1_ n2_; (try clear hb); (try clear hb2); (try clear hk); (try clear hi))); try go_wp2_with (first | ((with_reducible refine gate_dst (N := 9) rfl ?_); (try (refine gate_guard (by rfl) ?_; dsimp only)); refine box_event ?hg (N := 9) ?hd (cs := #[.string (⟨#[]⟩ : ByteArray), .string (⟨#[]⟩ : ByteArray), .string (⟨#[]⟩ : ByteArray), .int .i64 0, .bool false]) (t := 33) ?hr ?_; (case hd => rfl); (case hg => rfl); (case hr => first | (go_simp; done) | (go_simp; rfl)); intro gb223 hg w39 hbox hb; have n0_ := Aside0.mk (Kd.R_below (Kd.R_elderB zb10_4 gb223 (Nat.le_of_eq hg.symm)) hb); have n1_ := Aside0.mk (below_step zb2_4 hb); have n2_ := Aside0.mk (hbox); have n3_ := Aside0.mk ((zb3_4 : w.heap.size ≤ gb223)); have n4_ := Aside0.mk ((zb3_4 : w.heap.size ≤ gb223)); clear HO_7; clear HB; have HO_7 := n0_; have HB := n1_; have BK223 := n2_; have GW223 := n3_; have GE223 := n4_; clear n0_ n1_ n2_ n3_ n4_; clear hb hbox hg; have hcz40_0 := bcq_4 BK223.out 0; have hcz40_1 := bcq_4 BK223.out 1; have hcz40_2 := bcq_4 BK223.out 2; have hcz40_3 := bcq_4 BK223.out 3; have hcz40_4 := bcq_4 BK223.out 4; have hfz40_0 := blk_frozen BK223.out 0; have hfz40_1 := blk_frozen BK223.out 1; have hfz40_2 := blk_frozen BK223.out 2; have hfz40_3 := blk_frozen BK223.out 3; have hfz40_4 := blk_frozen BK223.out 4; obtain ⟨Ao41, co41, eo41⟩ := Kd.R_slice HO_7.out; subst eo41) | (go_at_call 17; (with_reducible refine (impl_itemAt.calls _ _ x7_3 ((rd_T33 l1 x49_3).f0) t224 false _ ?side1 ?side2 A31.out).mono ?_); (case side1 => refine (Kd.R_reads' (e := 33) (base := w.heap.size) (ok := fun k_ => (True ∧ k_ ≠ gb223)) (n := x7_3.length) (c := co41) ?_).2.2; exact zb11_4); (case side2 => exact (Kd.R_reads' HO_7.out).2.1); rintro e w42 ⟨rfl, hb⟩; have n0_ := Aside0.mk (Kd.R_below zb11_4 hb); have n1_ := Aside0.mk (blk_below (g := gb223) (o := .cells #[.string ((rd_T33 l1 x49_3).f0), .string ((rd_T33 l1 x49_3).f1), .string ((rd_T33 l1 x49_3).f2), .int .i64 ((rd_T33 l1 x49_3).f3), .bool true] 33 (0, 0)) zb12_4 hb); have n2_ := Aside0.mk (below_step zb13_4 hb); clear HO_7; clear BK223; clear HB; have HO_7 := n0_; have BK223 := n1_; have HB := n2_; clear n0_ n1_ n2_; (try clear hb); (try clear hb2); (try clear hk); (try clear hi))))
              go_roundg k3
              case measure => have := HJ2.out; have := HK2.out; have := HK3.out; omega
              case rel => exact ⟨(x7_3), (wrap64 (x49_3 + 1)), zb0_4, H', ⟨by have := HJ2.out; have := HK2.out; have := HK3.out; omega⟩, ⟨by (with_reducible repeat (first | apply Kd.R_alloc | apply Kd.R_drewN | apply Kd.R_drew)); exact Kd.R_mono HO_7.out (fun _ hk => trivial)⟩, ⟨by repeat (first | (with_reducible first | exact HB.out | apply below_alloc | apply pw_below_drewN | apply below_drew1 | refine below_set ?_ GE223.out) | exact HB.out)⟩⟩
            ·
             replace c30 := Bool.eq_false_iff.mpr c30
             subst c30
             have H1 : ((impl_placed.f x7_3 ((rd_T33 l1 x49_3).f0) ((rd_T33 l1 x49_3).f1) ((rd_T33 l1 x49_3).f2) ((rd_T33 l1 x49_3).f3) (false)).bind fun t229 => (impl_RosterFollow.l1 k3 t229 l1 (l1.length : Int) (wrap64 (x49_3 + 1)))) = some r := by rw [if_neg (show ¬ (false = true) by decide)] at H; exact H
             clear H
             have H := H1
             clear H1
             replace H := Option.bind_eq_some_iff.mp H
             obtain ⟨t229, A430, H⟩ := H
             replace H : (impl_RosterFollow.l1 k3 t229 l1 (l1.length : Int) (wrap64 (x49_3 + 1))) = some r := H
             have A43 := Aside0.mk A430
             clear A430
             have H' := Aside0.mk H
             clear H
             have p222 : 0 ≤ (x49_3 : Int) := of_decide_eq_true zb1_4
             have q222 : x49_3 < (l1.length : Int) := of_decide_eq_true zb1_4
             obtain ⟨ad222, e222, hx222_0, hx222_1, hx222_2, hx222_3, hx222_4⟩ := at_T33 HR1.out x49_3 p222 q222
             (try rw [← Nbq29.out] at hx222_4)
             (try rw [← Nbq29.out] at hw222_4)
             cases e222
             replace hx222_0 := (HB.out.cell (World.block_lt_of_cell? w _ hx222_0)).trans hx222_0
             replace hx222_1 := (HB.out.cell (World.block_lt_of_cell? w _ hx222_1)).trans hx222_1
             replace hx222_2 := (HB.out.cell (World.block_lt_of_cell? w _ hx222_2)).trans hx222_2
             replace hx222_3 := (HB.out.cell (World.block_lt_of_cell? w _ hx222_3)).trans hx222_3
             replace hx222_4 := (HB.out.cell (World.block_lt_of_cell? w _ hx222_4)).trans hx222_4
             replace p222 := eq_true p222
             replace q222 := eq_true q222
             go_wp2_with (first | ((with_reducible refine gate_dst (N := 9) rfl ?_); (try (refine gate_guard (by rfl) ?_; dsimp only)); refine box_event ?hg (N := 9) ?hd (cs := #[.string (⟨#[]⟩ : ByteArray), .string (⟨#[]⟩ : ByteArray), .string (⟨#[]⟩ : ByteArray), .int .i64 0, .bool false]) (t := 33) ?hr ?_; (case hd => rfl); (case hg => rfl); (case hr => first | (go_simp; done) | (go_simp; rfl)); intro gb223 hg w44 hbox hb; have n0_ := Aside0.mk (Kd.R_below (Kd.R_elderB zb10_4 gb223 (Nat.le_of_eq hg.symm)) hb); have n1_ := Aside0.mk (below_step zb2_4 hb); have n2_ := Aside0.mk (hbox); have n3_ := Aside0.mk ((zb3_4 : w.heap.size ≤ gb223)); have n4_ := Aside0.mk ((zb3_4 : w.heap.size ≤ gb223)); clear HO_7; clear HB; have HO_7 := n0_; have HB := n1_; have BK223 := n2_; have GW223 := n3_; have GE223 := n4_; clear n0_ n1_ n2_ n3_ n4_; clear hb hbox hg; have hcz45_0 := bcq_4 BK223.out 0; have hcz45_1 := bcq_4 BK223.out 1; have hcz45_2 := bcq_4 BK223.out 2; have hcz45_3 := bcq_4 BK223.out 3; have hcz45_4 := bcq_4 BK223.out 4; have hfz45_0 := blk_frozen BK223.out 0; have hfz45_1 := blk_frozen BK223.out 1; have hfz45_2 := blk_frozen BK223.out 2; have hfz45_3 := blk_frozen BK223.out 3; have hfz45_4 := blk_frozen BK223.out 4; obtain ⟨Ao46, co46, eo46⟩ := Kd.R_slice HO_7.out; subst eo46) | (go_at_call 16; (with_reducible refine (impl_placed.calls _ _ x7_3 ((rd_T33 l1 x49_3).f0) ((rd_T33 l1 x49_3).f1) ((rd_T33 l1 x49_3).f2) ((rd_T33 l1 x49_3).f3) false t229 _ ?side1 ?side2 A43.out).mono ?_); (case side1 => refine (Kd.R_reads' (e := 33) (base := w.heap.size) (ok := fun k_ => (True ∧ k_ ≠ gb223)) (n := x7_3.length) (c := co46) ?_).2.2; exact zb15_4); (case side2 => exact (Kd.R_reads' HO_7.out).2.1); rintro e w47 ⟨v230, rfl, ho0, hb⟩; have n0_ := Aside0.mk (Kd.R_elder' zb15_4 (Kd.R_base ho0) hb); have n1_ := Aside0.mk (Kd.R_lower (Kd.R_newB (Kd.R_new' ho0 (Kd.R_lt zb15_4)) (g := gb223) (o := .cells #[.string ((rd_T33 l1 x49_3).f0), .string ((rd_T33 l1 x49_3).f1), .string ((rd_T33 l1 x49_3).f2), .int .i64 ((rd_T33 l1 x49_3).f3), .bool false] 33 (0, 0)) zb12_4) (below_size zb13_4)); have n2_ := Aside0.mk (blk_below (g := gb223) (o := .cells #[.string ((rd_T33 l1 x49_3).f0), .string ((rd_T33 l1 x49_3).f1), .string ((rd_T33 l1 x49_3).f2), .int .i64 ((rd_T33 l1 x49_3).f3), .bool false] 33 (0, 0)) zb12_4 hb); have n3_ := Aside0.mk (below_step zb13_4 hb); clear HO_7; clear BK223; clear HB; have HO_7 := n0_; have HO231 := n1_; have BK223 := n2_; have HB := n3_; clear n0_ n1_ n2_ n3_; (try clear hb); (try clear hb2); (try clear hk); (try clear hi); (try clear ho0)))
             repeat (go_quiet (first | ((with_reducible refine gate_dst (N := 9) rfl ?_); (try (refine gate_guard (by rfl) ?_; dsimp only)); refine box_event ?hg (N := 9) ?hd (cs := #[.string (⟨#[]⟩ : ByteArray), .string (⟨#[]⟩ : ByteArray), .string (⟨#[]⟩ : ByteArray), .int .i64 0, .bool false]) (t := 33) ?hr ?_; (case hd => rfl); (case hg => rfl); (case hr => first | (go_simp; done) | (go_simp; rfl)); intro gb223 hg w44 hbox hb; have n0_ := Aside0.mk (Kd.R_below (Kd.R_elderB zb10_4 gb223 (Nat.le_of_eq hg.symm)) hb); have n1_ := Aside0.mk (below_step zb2_4 hb); have n2_ := Aside0.mk (hbox); have n3_ := Aside0.mk ((zb3_4 : w.heap.size ≤ gb223)); have n4_ := Aside0.mk ((zb3_4 : w.heap.size ≤ gb223)); clear HO_7; clear HB; have HO_7 := n0_; have HB := n1_; have BK223 := n2_; have GW223 := n3_; have GE223 := n4_; clear n0_ n1_ n2_ n3_ n4_; clear hb hbox hg; have hcz45_0 := bcq_4 BK223.out 0; have hcz45_1 := bcq_4 BK223.out 1; have hcz45_2 := bcq_4 BK223.out 2; have hcz45_3 := bcq_4 BK223.out 3; have hcz45_4 := bcq_4 BK223.out 4; have hfz45_0 := blk_frozen BK223.out 0; have hfz45_1 := blk_frozen BK223.out 1; have hfz45_2 := blk_frozen BK223.out 2; have hfz45_3 := blk_frozen BK223.out 3; have hfz45_4 := blk_frozen BK223.out 4; obtain ⟨Ao46, co46, eo46⟩ := Kd.R_slice HO_7.out; subst eo46) | (go_at_call 16; (with_reducible refine (impl_placed.calls _ _ x7_3 ((rd_T33 l1 x49_3).f0) ((rd_T33 l1 x49_3).f1) ((rd_T33 l1 x49_3).f2) ((rd_T33 l1 x49_3).f3) false t229 _ ?side1 ?side2 A43.out).mono ?_); (case side1 => refine (Kd.R_reads' (e := 33) (base := w.heap.size) (ok := fun k_ => (True ∧ k_ ≠ gb223)) (n := x7_3.length) (c := co46) ?_).2.2; exact zb15_4); (case side2 => exact (Kd.R_reads' HO_7.out).2.1); rintro e w47 ⟨v230, rfl, ho0, hb⟩; have n0_ := Aside0.mk (Kd.R_elder' zb15_4 (Kd.R_base ho0) hb); have n1_ := Aside0.mk (Kd.R_lower (Kd.R_newB (Kd.R_new' ho0 (Kd.R_lt zb15_4)) (g := gb223) (o := .cells #[.string ((rd_T33 l1 x49_3).f0), .string ((rd_T33 l1 x49_3).f1), .string ((rd_T33 l1 x49_3).f2), .int .i64 ((rd_T33 l1 x49_3).f3), .bool false] 33 (0, 0)) zb12_4) (below_size zb13_4)); have n2_ := Aside0.mk (blk_below (g := gb223) (o := .cells #[.string ((rd_T33 l1 x49_3).f0), .string ((rd_T33 l1 x49_3).f1), .string ((rd_T33 l1 x49_3).f2), .int .i64 ((rd_T33 l1 x49_3).f3), .bool false] 33 (0, 0)) zb12_4 hb); have n3_ := Aside0.mk (below_step zb13_4 hb); clear HO_7; clear BK223; clear HB; have HO_7 := n0_; have HO231 := n1_; have BK223 := n2_; have HB := n3_; clear n0_ n1_ n2_ n3_; (try clear hb); (try clear hb2); (try clear hk); (try clear hi); (try clear ho0))); try go_wp2_with (first | ((with_reducible refine gate_dst (N := 9) rfl ?_); (try (refine gate_guard (by rfl) ?_; dsimp only)); refine box_event ?hg (N := 9) ?hd (cs := #[.string (⟨#[]⟩ : ByteArray), .string (⟨#[]⟩ : ByteArray), .string (⟨#[]⟩ : ByteArray), .int .i64 0, .bool false]) (t := 33) ?hr ?_; (case hd => rfl); (case hg => rfl); (case hr => first | (go_simp; done) | (go_simp; rfl)); intro gb223 hg w44 hbox hb; have n0_ := Aside0.mk (Kd.R_below (Kd.R_elderB zb10_4 gb223 (Nat.le_of_eq hg.symm)) hb); have n1_ := Aside0.mk (below_step zb2_4 hb); have n2_ := Aside0.mk (hbox); have n3_ := Aside0.mk ((zb3_4 : w.heap.size ≤ gb223)); have n4_ := Aside0.mk ((zb3_4 : w.heap.size ≤ gb223)); clear HO_7; clear HB; have HO_7 := n0_; have HB := n1_; have BK223 := n2_; have GW223 := n3_; have GE223 := n4_; clear n0_ n1_ n2_ n3_ n4_; clear hb hbox hg; have hcz45_0 := bcq_4 BK223.out 0; have hcz45_1 := bcq_4 BK223.out 1; have hcz45_2 := bcq_4 BK223.out 2; have hcz45_3 := bcq_4 BK223.out 3; have hcz45_4 := bcq_4 BK223.out 4; have hfz45_0 := blk_frozen BK223.out 0; have hfz45_1 := blk_frozen BK223.out 1; have hfz45_2 := blk_frozen BK223.out 2; have hfz45_3 := blk_frozen BK223.out 3; have hfz45_4 := blk_frozen BK223.out 4; obtain ⟨Ao46, co46, eo46⟩ := Kd.R_slice HO_7.out; subst eo46) | (go_at_call 16; (with_reducible refine (impl_placed.calls _ _ x7_3 ((rd_T33 l1 x49_3).f0) ((rd_T33 l1 x49_3).f1) ((rd_T33 l1 x49_3).f2) ((rd_T33 l1 x49_3).f3) false t229 _ ?side1 ?side2 A43.out).mono ?_); (case side1 => refine (Kd.R_reads' (e := 33) (base := w.heap.size) (ok := fun k_ => (True ∧ k_ ≠ gb223)) (n := x7_3.length) (c := co46) ?_).2.2; exact zb15_4); (case side2 => exact (Kd.R_reads' HO_7.out).2.1); rintro e w47 ⟨v230, rfl, ho0, hb⟩; have n0_ := Aside0.mk (Kd.R_elder' zb15_4 (Kd.R_base ho0) hb); have n1_ := Aside0.mk (Kd.R_lower (Kd.R_newB (Kd.R_new' ho0 (Kd.R_lt zb15_4)) (g := gb223) (o := .cells #[.string ((rd_T33 l1 x49_3).f0), .string ((rd_T33 l1 x49_3).f1), .string ((rd_T33 l1 x49_3).f2), .int .i64 ((rd_T33 l1 x49_3).f3), .bool false] 33 (0, 0)) zb12_4) (below_size zb13_4)); have n2_ := Aside0.mk (blk_below (g := gb223) (o := .cells #[.string ((rd_T33 l1 x49_3).f0), .string ((rd_T33 l1 x49_3).f1), .string ((rd_T33 l1 x49_3).f2), .int .i64 ((rd_T33 l1 x49_3).f3), .bool false] 33 (0, 0)) zb12_4 hb); have n3_ := Aside0.mk (below_step zb13_4 hb); clear HO_7; clear BK223; clear HB; have HO_7 := n0_; have HO231 := n1_; have BK223 := n2_; have HB := n3_; clear n0_ n1_ n2_ n3_; (try clear hb); (try clear hb2); (try clear hk); (try clear hi); (try clear ho0))))
             go_roundg k3
             case measure => have := HJ2.out; have := HK2.out; have := HK3.out; omega
             case rel => exact ⟨(t229), (wrap64 (x49_3 + 1)), zb0_4, H', ⟨by have := HJ2.out; have := HK2.out; have := HK3.out; omega⟩, ⟨by (with_reducible repeat (first | apply Kd.R_alloc | apply Kd.R_drewN | apply Kd.R_drew)); exact Kd.R_mono HO231.out (fun _ hk => trivial)⟩, ⟨by repeat (first | (with_reducible first | exact HB.out | apply below_alloc | apply pw_below_drewN | apply below_drew1 | refine below_set ?_ GE223.out) | exact HB.out)⟩⟩
           ·
            rw [if_neg c28] at H
            exact absurd H (by simp)
          ·
           rw [if_neg c27] at H
           exact absurd H (by simp)
         ·
          rw [if_neg c26] at H
          have c26b0 : decide (x49_3 < (l1.length : Int)) = false := decide_eq_false c26
          clear c26
          obtain rfl := Option.some.inj H
          go_wp2
          repeat (go_quiet (fail); try go_wp2)
          go_ret
          exact ⟨_, by first | rfl | (simp [errW_none, errW_some] <;> rfl) | (simp [*, errW_none, errW_some] <;> rfl), by (with_reducible repeat (first | apply Kd.R_alloc | apply Kd.R_drewN | apply Kd.R_drew)); exact HO_7.out, by repeat (first | (with_reducible first | exact HB.out | apply below_alloc | apply pw_below_drewN | apply below_drew1) | exact HB.out)⟩

/-! ### laws_eqItem: function 19 -/
def laws_eqItem.f (a0_0 : ByteArray) (a0_1 : ByteArray) (a0_2 : ByteArray) (a0_3 : Int) (a0_4 : Bool) (a1_0 : ByteArray) (a1_1 : ByteArray) (a1_2 : ByteArray) (a1_3 : Int) (a1_4 : Bool) : Option (Bool) := if a0_0.toList = a1_0.toList then (if a0_1.toList = a1_1.toList then (if a0_2.toList = a1_2.toList then (if a0_3 = a1_3 then (if (a0_4 != a1_4) = true then (some false) else (some true)) else (some false)) else (some false)) else (some false)) else (some false)
set_option maxHeartbeats 400000000 in
set_option maxRecDepth 100000 in
theorem laws_eqItem.calls (a0_0 : ByteArray) (a0_1 : ByteArray) (a0_2 : ByteArray) (a0_3 : Int) (a0_4 : Bool) (a1_0 : ByteArray) (a1_1 : ByteArray) (a1_2 : ByteArray) (a1_3 : Int) (a1_4 : Bool) (r : Bool) (w : World) (h : laws_eqItem.f a0_0 a0_1 a0_2 a0_3 a0_4 a1_0 a1_1 a1_2 a1_3 a1_4 = some r) :
  Calls Try.prog 19 #[.agg #[.string a0_0, .string a0_1, .string a0_2, .int .i64 a0_3, .bool a0_4], .agg #[.string a1_0, .string a1_1, .string a1_2, .int .i64 a1_3, .bool a1_4]] w fun e w' => e = .returned (.bool r) ∧ Below w.heap.size w w' := by
 have hu33 := Try.underlying33
 have HB := Aside0.mk (Below.refl w.heap.size w)
 have H : (if a0_0.toList = a1_0.toList then (if a0_1.toList = a1_1.toList then (if a0_2.toList = a1_2.toList then (if a0_3 = a1_3 then (if (a0_4 != a1_4) = true then (some false) else (some true)) else (some false)) else (some false)) else (some false)) else (some false)) = some r := h
 clear h
 by_cases c3 : a0_0.toList = a1_0.toList
 ·
  rw [if_pos c3] at H
  have c3b0 : (a0_0.toList == a1_0.toList) = true := beq_iff_eq.mpr c3
  have c3b1 : (a0_0.toList != a1_0.toList) = false := bne_eq_false_iff_eq.mpr c3
  clear c3
  by_cases c4 : a0_1.toList = a1_1.toList
  ·
   rw [if_pos c4] at H
   have c4b0 : (a0_1.toList == a1_1.toList) = true := beq_iff_eq.mpr c4
   have c4b1 : (a0_1.toList != a1_1.toList) = false := bne_eq_false_iff_eq.mpr c4
   clear c4
   by_cases c5 : a0_2.toList = a1_2.toList
   ·
    rw [if_pos c5] at H
    have c5b0 : (a0_2.toList == a1_2.toList) = true := beq_iff_eq.mpr c5
    have c5b1 : (a0_2.toList != a1_2.toList) = false := bne_eq_false_iff_eq.mpr c5
    clear c5
    by_cases c6 : a0_3 = a1_3
    ·
     rw [if_pos c6] at H
     have c6b0 : (a0_3 == a1_3) = true := beq_iff_eq.mpr c6
     have c6b1 : (a0_3 != a1_3) = false := bne_eq_false_iff_eq.mpr c6
     clear c6
     by_cases c7 : (a0_4 != a1_4) = true
     ·
      rw [if_pos c7] at H
      have c7b0 : (a0_4 != a1_4) = true := c7
      (try (have c7b1 : decide (a0_4 = a1_4) = false := by simpa using c7))
      (try (have c7b2 : (a0_4 == a1_4) = false := by simpa using c7))
      (try (have c7b3 : ¬ (a0_4 = a1_4) := by simpa using c7))
      clear c7
      obtain rfl := Option.some.inj H
      go_enter Try.func19, Try.ntmps19
      go_wp2_with (first | ((with_reducible refine gate_dst (N := 2) rfl ?_); refine box_event ?hg (N := 2) ?hd (cs := #[.string a0_0, .string a0_1, .string a0_2, .int .i64 a0_3, .bool a0_4]) (t := 33) ?hr ?_; (case hd => rfl); (case hg => rfl); (case hr => first | (go_simp; done) | (go_simp; rfl)); intro gb232 hg w8 hbox hb; have n0_ := Aside0.mk (below_step zb2_4 hb); have n1_ := Aside0.mk (hbox); have n2_ := Aside0.mk ((zb3_4 : w.heap.size ≤ gb232)); have n3_ := Aside0.mk ((zb3_4 : w.heap.size ≤ gb232)); clear HB; have HB := n0_; have BK232 := n1_; have GW232 := n2_; have GE232 := n3_; clear n0_ n1_ n2_ n3_; clear hb hbox hg) | ((with_reducible refine gate_dst (N := 3) rfl ?_); refine box_event ?hg (N := 3) ?hd (cs := #[.string a1_0, .string a1_1, .string a1_2, .int .i64 a1_3, .bool a1_4]) (t := 33) ?hr ?_; (case hd => rfl); (case hg => rfl); (case hr => first | (go_simp; done) | (go_simp; rfl)); intro gb233 hg w9 hbox hb; have n0_ := Aside0.mk (blk_below (g := gb232) (o := .cells #[.string a0_0, .string a0_1, .string a0_2, .int .i64 a0_3, .bool a0_4] 33 (0, 0)) zb16_4 hb); have n1_ := Aside0.mk (below_step zb17_4 hb); have n2_ := Aside0.mk (hbox); have n3_ := Aside0.mk ((zb18_4 : w.heap.size ≤ gb233)); have n4_ := Aside0.mk ((zb18_4 : w.heap.size ≤ gb233)); have n5_ := Aside0.mk ((zb19_4 : gb232 ≠ gb233)); have n6_ := Aside0.mk ((zb20_4 : gb233 ≠ gb232)); clear BK232; clear HB; have BK232 := n0_; have HB := n1_; have BK233 := n2_; have GW233 := n3_; have GE233 := n4_; have NB232_233 := n5_; have NB233_232 := n6_; clear n0_ n1_ n2_ n3_ n4_ n5_ n6_; clear hb hbox hg; have hnb10 := NB232_233.out; have hnc10 := NB233_232.out; have hcz11_0 := bcq_4 BK232.out 0; have hcz11_1 := bcq_4 BK232.out 1; have hcz11_2 := bcq_4 BK232.out 2; have hcz11_3 := bcq_4 BK232.out 3; have hcz11_4 := bcq_4 BK232.out 4; have hfz11_0 := blk_frozen BK232.out 0; have hfz11_1 := blk_frozen BK232.out 1; have hfz11_2 := blk_frozen BK232.out 2; have hfz11_3 := blk_frozen BK232.out 3; have hfz11_4 := blk_frozen BK232.out 4; have hcz12_0 := bcq_4 BK233.out 0; have hcz12_1 := bcq_4 BK233.out 1; have hcz12_2 := bcq_4 BK233.out 2; have hcz12_3 := bcq_4 BK233.out 3; have hcz12_4 := bcq_4 BK233.out 4; have hfz12_0 := blk_frozen BK233.out 0; have hfz12_1 := blk_frozen BK233.out 1; have hfz12_2 := blk_frozen BK233.out 2; have hfz12_3 := blk_frozen BK233.out 3; have hfz12_4 := blk_frozen BK233.out 4))
      go_ret
      exact ⟨by first | rfl | (simp [errW_none, errW_some] <;> rfl) | (simp [*, errW_none, errW_some] <;> rfl), by repeat (first | (with_reducible first | exact HB.out | apply below_alloc | apply pw_below_drewN | apply below_drew1 | refine below_set ?_ GE232.out | refine below_set ?_ GE233.out) | exact HB.out)⟩
     ·
      rw [if_neg c7] at H
      have c7b0 : (a0_4 != a1_4) = false := by simpa using c7
      (try (have c7b1 : decide (a0_4 = a1_4) = true := by simpa using c7))
      (try (have c7b2 : (a0_4 == a1_4) = true := by simpa using c7))
      clear c7
      obtain rfl := Option.some.inj H
      go_enter Try.func19, Try.ntmps19
      go_wp2_with (first | ((with_reducible refine gate_dst (N := 2) rfl ?_); refine box_event ?hg (N := 2) ?hd (cs := #[.string a0_0, .string a0_1, .string a0_2, .int .i64 a0_3, .bool a0_4]) (t := 33) ?hr ?_; (case hd => rfl); (case hg => rfl); (case hr => first | (go_simp; done) | (go_simp; rfl)); intro gb232 hg w13 hbox hb; have n0_ := Aside0.mk (below_step zb2_4 hb); have n1_ := Aside0.mk (hbox); have n2_ := Aside0.mk ((zb3_4 : w.heap.size ≤ gb232)); have n3_ := Aside0.mk ((zb3_4 : w.heap.size ≤ gb232)); clear HB; have HB := n0_; have BK232 := n1_; have GW232 := n2_; have GE232 := n3_; clear n0_ n1_ n2_ n3_; clear hb hbox hg) | ((with_reducible refine gate_dst (N := 3) rfl ?_); refine box_event ?hg (N := 3) ?hd (cs := #[.string a1_0, .string a1_1, .string a1_2, .int .i64 a1_3, .bool a1_4]) (t := 33) ?hr ?_; (case hd => rfl); (case hg => rfl); (case hr => first | (go_simp; done) | (go_simp; rfl)); intro gb233 hg w14 hbox hb; have n0_ := Aside0.mk (blk_below (g := gb232) (o := .cells #[.string a0_0, .string a0_1, .string a0_2, .int .i64 a0_3, .bool a0_4] 33 (0, 0)) zb16_4 hb); have n1_ := Aside0.mk (below_step zb17_4 hb); have n2_ := Aside0.mk (hbox); have n3_ := Aside0.mk ((zb18_4 : w.heap.size ≤ gb233)); have n4_ := Aside0.mk ((zb18_4 : w.heap.size ≤ gb233)); have n5_ := Aside0.mk ((zb19_4 : gb232 ≠ gb233)); have n6_ := Aside0.mk ((zb20_4 : gb233 ≠ gb232)); clear BK232; clear HB; have BK232 := n0_; have HB := n1_; have BK233 := n2_; have GW233 := n3_; have GE233 := n4_; have NB232_233 := n5_; have NB233_232 := n6_; clear n0_ n1_ n2_ n3_ n4_ n5_ n6_; clear hb hbox hg; have hnb15 := NB232_233.out; have hnc15 := NB233_232.out; have hcz16_0 := bcq_4 BK232.out 0; have hcz16_1 := bcq_4 BK232.out 1; have hcz16_2 := bcq_4 BK232.out 2; have hcz16_3 := bcq_4 BK232.out 3; have hcz16_4 := bcq_4 BK232.out 4; have hfz16_0 := blk_frozen BK232.out 0; have hfz16_1 := blk_frozen BK232.out 1; have hfz16_2 := blk_frozen BK232.out 2; have hfz16_3 := blk_frozen BK232.out 3; have hfz16_4 := blk_frozen BK232.out 4; have hcz17_0 := bcq_4 BK233.out 0; have hcz17_1 := bcq_4 BK233.out 1; have hcz17_2 := bcq_4 BK233.out 2; have hcz17_3 := bcq_4 BK233.out 3; have hcz17_4 := bcq_4 BK233.out 4; have hfz17_0 := blk_frozen BK233.out 0; have hfz17_1 := blk_frozen BK233.out 1; have hfz17_2 := blk_frozen BK233.out 2; have hfz17_3 := blk_frozen BK233.out 3; have hfz17_4 := blk_frozen BK233.out 4))
      go_ret
      exact ⟨by first | rfl | (simp [errW_none, errW_some] <;> rfl) | (simp [*, errW_none, errW_some] <;> rfl), by repeat (first | (with_reducible first | exact HB.out | apply below_alloc | apply pw_below_drewN | apply below_drew1 | refine below_set ?_ GE232.out | refine below_set ?_ GE233.out) | exact HB.out)⟩
    ·
     rw [if_neg c6] at H
     have c6b0 : (a0_3 == a1_3) = false := beq_eq_false_iff_ne.mpr c6
     have c6b1 : (a0_3 != a1_3) = true := bne_iff_ne.mpr c6
     obtain rfl := Option.some.inj H
     go_enter Try.func19, Try.ntmps19
     go_wp2_with (first | ((with_reducible refine gate_dst (N := 2) rfl ?_); refine box_event ?hg (N := 2) ?hd (cs := #[.string a0_0, .string a0_1, .string a0_2, .int .i64 a0_3, .bool a0_4]) (t := 33) ?hr ?_; (case hd => rfl); (case hg => rfl); (case hr => first | (go_simp; done) | (go_simp; rfl)); intro gb232 hg w18 hbox hb; have n0_ := Aside0.mk (below_step zb2_4 hb); have n1_ := Aside0.mk (hbox); have n2_ := Aside0.mk ((zb3_4 : w.heap.size ≤ gb232)); have n3_ := Aside0.mk ((zb3_4 : w.heap.size ≤ gb232)); clear HB; have HB := n0_; have BK232 := n1_; have GW232 := n2_; have GE232 := n3_; clear n0_ n1_ n2_ n3_; clear hb hbox hg) | ((with_reducible refine gate_dst (N := 3) rfl ?_); refine box_event ?hg (N := 3) ?hd (cs := #[.string a1_0, .string a1_1, .string a1_2, .int .i64 a1_3, .bool a1_4]) (t := 33) ?hr ?_; (case hd => rfl); (case hg => rfl); (case hr => first | (go_simp; done) | (go_simp; rfl)); intro gb233 hg w19 hbox hb; have n0_ := Aside0.mk (blk_below (g := gb232) (o := .cells #[.string a0_0, .string a0_1, .string a0_2, .int .i64 a0_3, .bool a0_4] 33 (0, 0)) zb16_4 hb); have n1_ := Aside0.mk (below_step zb17_4 hb); have n2_ := Aside0.mk (hbox); have n3_ := Aside0.mk ((zb18_4 : w.heap.size ≤ gb233)); have n4_ := Aside0.mk ((zb18_4 : w.heap.size ≤ gb233)); have n5_ := Aside0.mk ((zb19_4 : gb232 ≠ gb233)); have n6_ := Aside0.mk ((zb20_4 : gb233 ≠ gb232)); clear BK232; clear HB; have BK232 := n0_; have HB := n1_; have BK233 := n2_; have GW233 := n3_; have GE233 := n4_; have NB232_233 := n5_; have NB233_232 := n6_; clear n0_ n1_ n2_ n3_ n4_ n5_ n6_; clear hb hbox hg; have hnb20 := NB232_233.out; have hnc20 := NB233_232.out; have hcz21_0 := bcq_4 BK232.out 0; have hcz21_1 := bcq_4 BK232.out 1; have hcz21_2 := bcq_4 BK232.out 2; have hcz21_3 := bcq_4 BK232.out 3; have hcz21_4 := bcq_4 BK232.out 4; have hfz21_0 := blk_frozen BK232.out 0; have hfz21_1 := blk_frozen BK232.out 1; have hfz21_2 := blk_frozen BK232.out 2; have hfz21_3 := blk_frozen BK232.out 3; have hfz21_4 := blk_frozen BK232.out 4; have hcz22_0 := bcq_4 BK233.out 0; have hcz22_1 := bcq_4 BK233.out 1; have hcz22_2 := bcq_4 BK233.out 2; have hcz22_3 := bcq_4 BK233.out 3; have hcz22_4 := bcq_4 BK233.out 4; have hfz22_0 := blk_frozen BK233.out 0; have hfz22_1 := blk_frozen BK233.out 1; have hfz22_2 := blk_frozen BK233.out 2; have hfz22_3 := blk_frozen BK233.out 3; have hfz22_4 := blk_frozen BK233.out 4))
     go_ret
     exact ⟨by first | rfl | (simp [errW_none, errW_some] <;> rfl) | (simp [*, errW_none, errW_some] <;> rfl), by repeat (first | (with_reducible first | exact HB.out | apply below_alloc | apply pw_below_drewN | apply below_drew1 | refine below_set ?_ GE232.out | refine below_set ?_ GE233.out) | exact HB.out)⟩
   ·
    rw [if_neg c5] at H
    have c5b0 : (a0_2.toList == a1_2.toList) = false := beq_eq_false_iff_ne.mpr c5
    have c5b1 : (a0_2.toList != a1_2.toList) = true := bne_iff_ne.mpr c5
    obtain rfl := Option.some.inj H
    go_enter Try.func19, Try.ntmps19
    go_wp2_with (first | ((with_reducible refine gate_dst (N := 2) rfl ?_); refine box_event ?hg (N := 2) ?hd (cs := #[.string a0_0, .string a0_1, .string a0_2, .int .i64 a0_3, .bool a0_4]) (t := 33) ?hr ?_; (case hd => rfl); (case hg => rfl); (case hr => first | (go_simp; done) | (go_simp; rfl)); intro gb232 hg w23 hbox hb; have n0_ := Aside0.mk (below_step zb2_4 hb); have n1_ := Aside0.mk (hbox); have n2_ := Aside0.mk ((zb3_4 : w.heap.size ≤ gb232)); have n3_ := Aside0.mk ((zb3_4 : w.heap.size ≤ gb232)); clear HB; have HB := n0_; have BK232 := n1_; have GW232 := n2_; have GE232 := n3_; clear n0_ n1_ n2_ n3_; clear hb hbox hg) | ((with_reducible refine gate_dst (N := 3) rfl ?_); refine box_event ?hg (N := 3) ?hd (cs := #[.string a1_0, .string a1_1, .string a1_2, .int .i64 a1_3, .bool a1_4]) (t := 33) ?hr ?_; (case hd => rfl); (case hg => rfl); (case hr => first | (go_simp; done) | (go_simp; rfl)); intro gb233 hg w24 hbox hb; have n0_ := Aside0.mk (blk_below (g := gb232) (o := .cells #[.string a0_0, .string a0_1, .string a0_2, .int .i64 a0_3, .bool a0_4] 33 (0, 0)) zb16_4 hb); have n1_ := Aside0.mk (below_step zb17_4 hb); have n2_ := Aside0.mk (hbox); have n3_ := Aside0.mk ((zb18_4 : w.heap.size ≤ gb233)); have n4_ := Aside0.mk ((zb18_4 : w.heap.size ≤ gb233)); have n5_ := Aside0.mk ((zb19_4 : gb232 ≠ gb233)); have n6_ := Aside0.mk ((zb20_4 : gb233 ≠ gb232)); clear BK232; clear HB; have BK232 := n0_; have HB := n1_; have BK233 := n2_; have GW233 := n3_; have GE233 := n4_; have NB232_233 := n5_; have NB233_232 := n6_; clear n0_ n1_ n2_ n3_ n4_ n5_ n6_; clear hb hbox hg; have hnb25 := NB232_233.out; have hnc25 := NB233_232.out; have hcz26_0 := bcq_4 BK232.out 0; have hcz26_1 := bcq_4 BK232.out 1; have hcz26_2 := bcq_4 BK232.out 2; have hcz26_3 := bcq_4 BK232.out 3; have hcz26_4 := bcq_4 BK232.out 4; have hfz26_0 := blk_frozen BK232.out 0; have hfz26_1 := blk_frozen BK232.out 1; have hfz26_2 := blk_frozen BK232.out 2; have hfz26_3 := blk_frozen BK232.out 3; have hfz26_4 := blk_frozen BK232.out 4; have hcz27_0 := bcq_4 BK233.out 0; have hcz27_1 := bcq_4 BK233.out 1; have hcz27_2 := bcq_4 BK233.out 2; have hcz27_3 := bcq_4 BK233.out 3; have hcz27_4 := bcq_4 BK233.out 4; have hfz27_0 := blk_frozen BK233.out 0; have hfz27_1 := blk_frozen BK233.out 1; have hfz27_2 := blk_frozen BK233.out 2; have hfz27_3 := blk_frozen BK233.out 3; have hfz27_4 := blk_frozen BK233.out 4))
    go_ret
    exact ⟨by first | rfl | (simp [errW_none, errW_some] <;> rfl) | (simp [*, errW_none, errW_some] <;> rfl), by repeat (first | (with_reducible first | exact HB.out | apply below_alloc | apply pw_below_drewN | apply below_drew1 | refine below_set ?_ GE232.out | refine below_set ?_ GE233.out) | exact HB.out)⟩
  ·
   rw [if_neg c4] at H
   have c4b0 : (a0_1.toList == a1_1.toList) = false := beq_eq_false_iff_ne.mpr c4
   have c4b1 : (a0_1.toList != a1_1.toList) = true := bne_iff_ne.mpr c4
   obtain rfl := Option.some.inj H
   go_enter Try.func19, Try.ntmps19
   go_wp2_with (first | ((with_reducible refine gate_dst (N := 2) rfl ?_); refine box_event ?hg (N := 2) ?hd (cs := #[.string a0_0, .string a0_1, .string a0_2, .int .i64 a0_3, .bool a0_4]) (t := 33) ?hr ?_; (case hd => rfl); (case hg => rfl); (case hr => first | (go_simp; done) | (go_simp; rfl)); intro gb232 hg w28 hbox hb; have n0_ := Aside0.mk (below_step zb2_4 hb); have n1_ := Aside0.mk (hbox); have n2_ := Aside0.mk ((zb3_4 : w.heap.size ≤ gb232)); have n3_ := Aside0.mk ((zb3_4 : w.heap.size ≤ gb232)); clear HB; have HB := n0_; have BK232 := n1_; have GW232 := n2_; have GE232 := n3_; clear n0_ n1_ n2_ n3_; clear hb hbox hg) | ((with_reducible refine gate_dst (N := 3) rfl ?_); refine box_event ?hg (N := 3) ?hd (cs := #[.string a1_0, .string a1_1, .string a1_2, .int .i64 a1_3, .bool a1_4]) (t := 33) ?hr ?_; (case hd => rfl); (case hg => rfl); (case hr => first | (go_simp; done) | (go_simp; rfl)); intro gb233 hg w29 hbox hb; have n0_ := Aside0.mk (blk_below (g := gb232) (o := .cells #[.string a0_0, .string a0_1, .string a0_2, .int .i64 a0_3, .bool a0_4] 33 (0, 0)) zb16_4 hb); have n1_ := Aside0.mk (below_step zb17_4 hb); have n2_ := Aside0.mk (hbox); have n3_ := Aside0.mk ((zb18_4 : w.heap.size ≤ gb233)); have n4_ := Aside0.mk ((zb18_4 : w.heap.size ≤ gb233)); have n5_ := Aside0.mk ((zb19_4 : gb232 ≠ gb233)); have n6_ := Aside0.mk ((zb20_4 : gb233 ≠ gb232)); clear BK232; clear HB; have BK232 := n0_; have HB := n1_; have BK233 := n2_; have GW233 := n3_; have GE233 := n4_; have NB232_233 := n5_; have NB233_232 := n6_; clear n0_ n1_ n2_ n3_ n4_ n5_ n6_; clear hb hbox hg; have hnb30 := NB232_233.out; have hnc30 := NB233_232.out; have hcz31_0 := bcq_4 BK232.out 0; have hcz31_1 := bcq_4 BK232.out 1; have hcz31_2 := bcq_4 BK232.out 2; have hcz31_3 := bcq_4 BK232.out 3; have hcz31_4 := bcq_4 BK232.out 4; have hfz31_0 := blk_frozen BK232.out 0; have hfz31_1 := blk_frozen BK232.out 1; have hfz31_2 := blk_frozen BK232.out 2; have hfz31_3 := blk_frozen BK232.out 3; have hfz31_4 := blk_frozen BK232.out 4; have hcz32_0 := bcq_4 BK233.out 0; have hcz32_1 := bcq_4 BK233.out 1; have hcz32_2 := bcq_4 BK233.out 2; have hcz32_3 := bcq_4 BK233.out 3; have hcz32_4 := bcq_4 BK233.out 4; have hfz32_0 := blk_frozen BK233.out 0; have hfz32_1 := blk_frozen BK233.out 1; have hfz32_2 := blk_frozen BK233.out 2; have hfz32_3 := blk_frozen BK233.out 3; have hfz32_4 := blk_frozen BK233.out 4))
   go_ret
   exact ⟨by first | rfl | (simp [errW_none, errW_some] <;> rfl) | (simp [*, errW_none, errW_some] <;> rfl), by repeat (first | (with_reducible first | exact HB.out | apply below_alloc | apply pw_below_drewN | apply below_drew1 | refine below_set ?_ GE232.out | refine below_set ?_ GE233.out) | exact HB.out)⟩
 ·
  rw [if_neg c3] at H
  have c3b0 : (a0_0.toList == a1_0.toList) = false := beq_eq_false_iff_ne.mpr c3
  have c3b1 : (a0_0.toList != a1_0.toList) = true := bne_iff_ne.mpr c3
  obtain rfl := Option.some.inj H
  go_enter Try.func19, Try.ntmps19
  go_wp2_with (first | ((with_reducible refine gate_dst (N := 2) rfl ?_); refine box_event ?hg (N := 2) ?hd (cs := #[.string a0_0, .string a0_1, .string a0_2, .int .i64 a0_3, .bool a0_4]) (t := 33) ?hr ?_; (case hd => rfl); (case hg => rfl); (case hr => first | (go_simp; done) | (go_simp; rfl)); intro gb232 hg w33 hbox hb; have n0_ := Aside0.mk (below_step zb2_4 hb); have n1_ := Aside0.mk (hbox); have n2_ := Aside0.mk ((zb3_4 : w.heap.size ≤ gb232)); have n3_ := Aside0.mk ((zb3_4 : w.heap.size ≤ gb232)); clear HB; have HB := n0_; have BK232 := n1_; have GW232 := n2_; have GE232 := n3_; clear n0_ n1_ n2_ n3_; clear hb hbox hg) | ((with_reducible refine gate_dst (N := 3) rfl ?_); refine box_event ?hg (N := 3) ?hd (cs := #[.string a1_0, .string a1_1, .string a1_2, .int .i64 a1_3, .bool a1_4]) (t := 33) ?hr ?_; (case hd => rfl); (case hg => rfl); (case hr => first | (go_simp; done) | (go_simp; rfl)); intro gb233 hg w34 hbox hb; have n0_ := Aside0.mk (blk_below (g := gb232) (o := .cells #[.string a0_0, .string a0_1, .string a0_2, .int .i64 a0_3, .bool a0_4] 33 (0, 0)) zb16_4 hb); have n1_ := Aside0.mk (below_step zb17_4 hb); have n2_ := Aside0.mk (hbox); have n3_ := Aside0.mk ((zb18_4 : w.heap.size ≤ gb233)); have n4_ := Aside0.mk ((zb18_4 : w.heap.size ≤ gb233)); have n5_ := Aside0.mk ((zb19_4 : gb232 ≠ gb233)); have n6_ := Aside0.mk ((zb20_4 : gb233 ≠ gb232)); clear BK232; clear HB; have BK232 := n0_; have HB := n1_; have BK233 := n2_; have GW233 := n3_; have GE233 := n4_; have NB232_233 := n5_; have NB233_232 := n6_; clear n0_ n1_ n2_ n3_ n4_ n5_ n6_; clear hb hbox hg; have hnb35 := NB232_233.out; have hnc35 := NB233_232.out; have hcz36_0 := bcq_4 BK232.out 0; have hcz36_1 := bcq_4 BK232.out 1; have hcz36_2 := bcq_4 BK232.out 2; have hcz36_3 := bcq_4 BK232.out 3; have hcz36_4 := bcq_4 BK232.out 4; have hfz36_0 := blk_frozen BK232.out 0; have hfz36_1 := blk_frozen BK232.out 1; have hfz36_2 := blk_frozen BK232.out 2; have hfz36_3 := blk_frozen BK232.out 3; have hfz36_4 := blk_frozen BK232.out 4; have hcz37_0 := bcq_4 BK233.out 0; have hcz37_1 := bcq_4 BK233.out 1; have hcz37_2 := bcq_4 BK233.out 2; have hcz37_3 := bcq_4 BK233.out 3; have hcz37_4 := bcq_4 BK233.out 4; have hfz37_0 := blk_frozen BK233.out 0; have hfz37_1 := blk_frozen BK233.out 1; have hfz37_2 := blk_frozen BK233.out 2; have hfz37_3 := blk_frozen BK233.out 3; have hfz37_4 := blk_frozen BK233.out 4))
  go_ret
  exact ⟨by first | rfl | (simp [errW_none, errW_some] <;> rfl) | (simp [*, errW_none, errW_some] <;> rfl), by repeat (first | (with_reducible first | exact HB.out | apply below_alloc | apply pw_below_drewN | apply below_drew1 | refine below_set ?_ GE232.out | refine below_set ?_ GE233.out) | exact HB.out)⟩

end Go.Proofs.Ytgfmapilimlamaa.QFnExactRosterFollow
