-- laid by this session's own runner (wip/print2.py): not a printed file
import Derived.Test.YtgfmapilimlamaaQFnExactRosterFollowx0
namespace Go.Proofs.Ytgfmapilimlamaa.QFnExactRosterFollow
open Go.RowKit Go.Proofs.YtgfmapilimlamaaW.PrintWords Go.Proofs.YtgfmapilimlamaaW.PrintLast Go.Proofs.YtgfmapilimlamaaW.PrintMore
attribute [local go_sem] max2_int min2_int max_two min_two max_three min_three max_four min_four   -- for this text's walks alone
set_option linter.unusedVariables false
set_option linter.unusedSimpArgs false

theorem bcq_1 {w : World} {g t : Nat} {cs : Array Value} {v : Value} (h : w.heap[g]? = some (.cells cs t (0, 0))) (j : Nat) (e : cs[j]? = some v := by rfl) : w.cell? ⟨g, j, none⟩ = some v := (blk_cell h j).trans e
theorem zb0_1 {P : Prop} (h : P := by repeat (first | (with_reducible first | exact HB.out | apply below_alloc | apply pw_below_drewN | apply below_drew1) | exact HB.out)) : P := h
theorem zb1_1 {P : Prop} (h : P := by rw [hg]; exact (below_size (by repeat (first | (with_reducible first | exact HB.out | apply below_alloc | apply pw_below_drewN | apply below_drew1) | exact HB.out)))) : P := h
theorem zb2_1 {P : Prop} (h : P := by first | rfl | (simp; done) | (simp [*]; done)) : P := h
theorem zb3_1 {P : Prop} (h : P := by first | (with_reducible assumption) | assumption) : P := h
theorem zb4_1 {P : Prop} (h : P := by (with_reducible repeat (first | refine blk_drewN ?_ _ | refine blk_drew ?_ | refine blk_alloc ?_ _)); exact BK104.out) : P := h
theorem zb5_1 {P : Prop} (h : P := by repeat (first | (with_reducible first | exact HB.out | apply below_alloc | apply pw_below_drewN | apply below_drew1 | refine below_set ?_ GE104.out) | exact HB.out)) : P := h
theorem zb6_1 {P : Prop} (h : P := by (with_reducible repeat (first | apply Kd.R_alloc | apply Kd.R_drewN | apply Kd.R_drew)); exact Kd.R_mono HO108.out (fun _ hk => hk.2)) : P := h
theorem zb7_1 {P : Prop} (h : P := by (with_reducible repeat (first | apply Kd.R_alloc | apply Kd.R_drewN | apply Kd.R_drew)); exact HO115.out) : P := h
theorem zb8_1 {P : Prop} (h : P := by (with_reducible repeat (first | apply Kd.R_alloc | apply Kd.R_drewN | apply Kd.R_drew)); exact HO118.out) : P := h
theorem zb9_1 {P : Prop} (h : P := by (with_reducible repeat (first | apply Kd.R_alloc | apply Kd.R_drewN | apply Kd.R_drew)); exact Kd.R_mono HO136.out (fun _ hk => hk.2)) : P := h
theorem zb10_1 {P : Prop} (h : P := by (with_reducible repeat (first | apply Kd.R_alloc | apply Kd.R_drewN | apply Kd.R_drew)); exact HO143.out) : P := h
theorem zb11_1 {P : Prop} (h : P := by (with_reducible repeat (first | apply Kd.R_alloc | apply Kd.R_drewN | apply Kd.R_drew)); exact HO146.out) : P := h
/-! ### laws_szItem: function 11 -/
def laws_szItem.f (a0_0 : ByteArray) (a0_1 : ByteArray) (a0_2 : ByteArray) (a0_3 : Int) (a0_4 : Bool) (a1 : Int) : Option (Int) := if (wrap64 (a1 - (a0_0.size : Int))) < 0 then (some (-1)) else (if (wrap64 ((wrap64 (a1 - (a0_0.size : Int))) - (a0_1.size : Int))) < 0 then (some (-1)) else (if (wrap64 ((wrap64 ((wrap64 (a1 - (a0_0.size : Int))) - (a0_1.size : Int))) - (a0_2.size : Int))) < 0 then (some (-1)) else (some (wrap64 ((wrap64 ((wrap64 (a1 - (a0_0.size : Int))) - (a0_1.size : Int))) - (a0_2.size : Int))))))
set_option maxHeartbeats 8000000 in
set_option maxRecDepth 100000 in
theorem laws_szItem.calls (a0_0 : ByteArray) (a0_1 : ByteArray) (a0_2 : ByteArray) (a0_3 : Int) (a0_4 : Bool) (a1 : Int) (r : Int) (w : World) (h : laws_szItem.f a0_0 a0_1 a0_2 a0_3 a0_4 a1 = some r) :
  Calls Try.prog 11 #[.agg #[.string a0_0, .string a0_1, .string a0_2, .int .i64 a0_3, .bool a0_4], .int .i64 a1] w fun e w' => e = .returned (.int .i64 r) ∧ Below w.heap.size w w' := by
 have hu32 := Try.underlying32
 have HB := Aside0.mk (Below.refl w.heap.size w)
 have H : (if (wrap64 (a1 - (a0_0.size : Int))) < 0 then (some (-1)) else (if (wrap64 ((wrap64 (a1 - (a0_0.size : Int))) - (a0_1.size : Int))) < 0 then (some (-1)) else (if (wrap64 ((wrap64 ((wrap64 (a1 - (a0_0.size : Int))) - (a0_1.size : Int))) - (a0_2.size : Int))) < 0 then (some (-1)) else (some (wrap64 ((wrap64 ((wrap64 (a1 - (a0_0.size : Int))) - (a0_1.size : Int))) - (a0_2.size : Int))))))) = some r := h
 clear h
 by_cases c3 : (wrap64 (a1 - (a0_0.size : Int))) < 0
 ·
  rw [if_pos c3] at H
  have c3b0 : decide ((wrap64 (a1 - (a0_0.size : Int))) < 0) = true := decide_eq_true c3
  clear c3
  obtain rfl := Option.some.inj H
  go_enter Try.func11, Try.ntmps11
  go_wp2_with (first | ((with_reducible refine gate_dst (N := 2) rfl ?_); refine box_event ?hg (N := 2) ?hd (cs := #[.string a0_0, .string a0_1, .string a0_2, .int .i64 a0_3, .bool a0_4]) (t := 32) ?hr ?_; (case hd => rfl); (case hg => rfl); (case hr => first | (go_simp; done) | (go_simp; rfl)); intro gb101 hg w4 hbox hb; have n0_ := Aside0.mk (below_step zb0_1 hb); have n1_ := Aside0.mk (hbox); have n2_ := Aside0.mk ((zb1_1 : w.heap.size ≤ gb101)); have n3_ := Aside0.mk ((zb1_1 : w.heap.size ≤ gb101)); clear HB; have HB := n0_; have BK101 := n1_; have GW101 := n2_; have GE101 := n3_; clear n0_ n1_ n2_ n3_; clear hb hbox hg; have hcz5_0 := bcq_1 BK101.out 0; have hcz5_1 := bcq_1 BK101.out 1; have hcz5_2 := bcq_1 BK101.out 2; have hcz5_3 := bcq_1 BK101.out 3; have hcz5_4 := bcq_1 BK101.out 4; have hfz5_0 := blk_frozen BK101.out 0; have hfz5_1 := blk_frozen BK101.out 1; have hfz5_2 := blk_frozen BK101.out 2; have hfz5_3 := blk_frozen BK101.out 3; have hfz5_4 := blk_frozen BK101.out 4))
  go_ret
  exact ⟨by first | rfl | (simp [errW_none, errW_some] <;> rfl) | (simp [*, errW_none, errW_some] <;> rfl), by repeat (first | (with_reducible first | exact HB.out | apply below_alloc | apply pw_below_drewN | apply below_drew1 | refine below_set ?_ GE101.out) | exact HB.out)⟩
 ·
  rw [if_neg c3] at H
  have c3b0 : decide ((wrap64 (a1 - (a0_0.size : Int))) < 0) = false := decide_eq_false c3
  clear c3
  by_cases c6 : (wrap64 ((wrap64 (a1 - (a0_0.size : Int))) - (a0_1.size : Int))) < 0
  ·
   rw [if_pos c6] at H
   have c6b0 : decide ((wrap64 ((wrap64 (a1 - (a0_0.size : Int))) - (a0_1.size : Int))) < 0) = true := decide_eq_true c6
   clear c6
   obtain rfl := Option.some.inj H
   go_enter Try.func11, Try.ntmps11
   go_wp2_with (first | ((with_reducible refine gate_dst (N := 2) rfl ?_); refine box_event ?hg (N := 2) ?hd (cs := #[.string a0_0, .string a0_1, .string a0_2, .int .i64 a0_3, .bool a0_4]) (t := 32) ?hr ?_; (case hd => rfl); (case hg => rfl); (case hr => first | (go_simp; done) | (go_simp; rfl)); intro gb101 hg w7 hbox hb; have n0_ := Aside0.mk (below_step zb0_1 hb); have n1_ := Aside0.mk (hbox); have n2_ := Aside0.mk ((zb1_1 : w.heap.size ≤ gb101)); have n3_ := Aside0.mk ((zb1_1 : w.heap.size ≤ gb101)); clear HB; have HB := n0_; have BK101 := n1_; have GW101 := n2_; have GE101 := n3_; clear n0_ n1_ n2_ n3_; clear hb hbox hg; have hcz8_0 := bcq_1 BK101.out 0; have hcz8_1 := bcq_1 BK101.out 1; have hcz8_2 := bcq_1 BK101.out 2; have hcz8_3 := bcq_1 BK101.out 3; have hcz8_4 := bcq_1 BK101.out 4; have hfz8_0 := blk_frozen BK101.out 0; have hfz8_1 := blk_frozen BK101.out 1; have hfz8_2 := blk_frozen BK101.out 2; have hfz8_3 := blk_frozen BK101.out 3; have hfz8_4 := blk_frozen BK101.out 4))
   go_ret
   exact ⟨by first | rfl | (simp [errW_none, errW_some] <;> rfl) | (simp [*, errW_none, errW_some] <;> rfl), by repeat (first | (with_reducible first | exact HB.out | apply below_alloc | apply pw_below_drewN | apply below_drew1 | refine below_set ?_ GE101.out) | exact HB.out)⟩
  ·
   rw [if_neg c6] at H
   have c6b0 : decide ((wrap64 ((wrap64 (a1 - (a0_0.size : Int))) - (a0_1.size : Int))) < 0) = false := decide_eq_false c6
   clear c6
   by_cases c9 : (wrap64 ((wrap64 ((wrap64 (a1 - (a0_0.size : Int))) - (a0_1.size : Int))) - (a0_2.size : Int))) < 0
   ·
    rw [if_pos c9] at H
    have c9b0 : decide ((wrap64 ((wrap64 ((wrap64 (a1 - (a0_0.size : Int))) - (a0_1.size : Int))) - (a0_2.size : Int))) < 0) = true := decide_eq_true c9
    clear c9
    obtain rfl := Option.some.inj H
    go_enter Try.func11, Try.ntmps11
    go_wp2_with (first | ((with_reducible refine gate_dst (N := 2) rfl ?_); refine box_event ?hg (N := 2) ?hd (cs := #[.string a0_0, .string a0_1, .string a0_2, .int .i64 a0_3, .bool a0_4]) (t := 32) ?hr ?_; (case hd => rfl); (case hg => rfl); (case hr => first | (go_simp; done) | (go_simp; rfl)); intro gb101 hg w10 hbox hb; have n0_ := Aside0.mk (below_step zb0_1 hb); have n1_ := Aside0.mk (hbox); have n2_ := Aside0.mk ((zb1_1 : w.heap.size ≤ gb101)); have n3_ := Aside0.mk ((zb1_1 : w.heap.size ≤ gb101)); clear HB; have HB := n0_; have BK101 := n1_; have GW101 := n2_; have GE101 := n3_; clear n0_ n1_ n2_ n3_; clear hb hbox hg; have hcz11_0 := bcq_1 BK101.out 0; have hcz11_1 := bcq_1 BK101.out 1; have hcz11_2 := bcq_1 BK101.out 2; have hcz11_3 := bcq_1 BK101.out 3; have hcz11_4 := bcq_1 BK101.out 4; have hfz11_0 := blk_frozen BK101.out 0; have hfz11_1 := blk_frozen BK101.out 1; have hfz11_2 := blk_frozen BK101.out 2; have hfz11_3 := blk_frozen BK101.out 3; have hfz11_4 := blk_frozen BK101.out 4))
    go_ret
    exact ⟨by first | rfl | (simp [errW_none, errW_some] <;> rfl) | (simp [*, errW_none, errW_some] <;> rfl), by repeat (first | (with_reducible first | exact HB.out | apply below_alloc | apply pw_below_drewN | apply below_drew1 | refine below_set ?_ GE101.out) | exact HB.out)⟩
   ·
    rw [if_neg c9] at H
    have c9b0 : decide ((wrap64 ((wrap64 ((wrap64 (a1 - (a0_0.size : Int))) - (a0_1.size : Int))) - (a0_2.size : Int))) < 0) = false := decide_eq_false c9
    clear c9
    obtain rfl := Option.some.inj H
    go_enter Try.func11, Try.ntmps11
    go_wp2_with (first | ((with_reducible refine gate_dst (N := 2) rfl ?_); refine box_event ?hg (N := 2) ?hd (cs := #[.string a0_0, .string a0_1, .string a0_2, .int .i64 a0_3, .bool a0_4]) (t := 32) ?hr ?_; (case hd => rfl); (case hg => rfl); (case hr => first | (go_simp; done) | (go_simp; rfl)); intro gb101 hg w12 hbox hb; have n0_ := Aside0.mk (below_step zb0_1 hb); have n1_ := Aside0.mk (hbox); have n2_ := Aside0.mk ((zb1_1 : w.heap.size ≤ gb101)); have n3_ := Aside0.mk ((zb1_1 : w.heap.size ≤ gb101)); clear HB; have HB := n0_; have BK101 := n1_; have GW101 := n2_; have GE101 := n3_; clear n0_ n1_ n2_ n3_; clear hb hbox hg; have hcz13_0 := bcq_1 BK101.out 0; have hcz13_1 := bcq_1 BK101.out 1; have hcz13_2 := bcq_1 BK101.out 2; have hcz13_3 := bcq_1 BK101.out 3; have hcz13_4 := bcq_1 BK101.out 4; have hfz13_0 := blk_frozen BK101.out 0; have hfz13_1 := blk_frozen BK101.out 1; have hfz13_2 := blk_frozen BK101.out 2; have hfz13_3 := blk_frozen BK101.out 3; have hfz13_4 := blk_frozen BK101.out 4))
    go_ret
    exact ⟨by first | rfl | (simp [errW_none, errW_some] <;> rfl) | (simp [*, errW_none, errW_some] <;> rfl), by repeat (first | (with_reducible first | exact HB.out | apply below_alloc | apply pw_below_drewN | apply below_drew1 | refine below_set ?_ GE101.out) | exact HB.out)⟩

/-! ### laws_szItemS: function 4 -/
def laws_szItemS.l0 : Nat → List (S32) → Int → Int → Option (Int)
 | 0, _, _, _ => none
 | k + 1, x0, x1, x5 => if x5 < (x0.length : Int) then (if 0 ≤ x5 then ((laws_szItem.f ((rd_T32 x0 x5).f0) ((rd_T32 x0 x5).f1) ((rd_T32 x0 x5).f2) ((rd_T32 x0 x5).f3) ((rd_T32 x0 x5).f4) x1).bind fun t103 => (if t103 < 0 then (some (-1)) else (laws_szItemS.l0 k x0 t103 (wrap64 (x5 + 1))))) else (none)) else (some x1)
def laws_szItemS.f (k : Nat) (l0 : List (S32)) (a1 : Int) : Option (Int) := if (wrap64 (a1 - (l0.length : Int))) < 0 then (some (-1)) else (laws_szItemS.l0 k l0 (wrap64 (a1 - (l0.length : Int))) 0)
theorem laws_szItemS.mono_l : ∀ k, (∀ y0 y1 y2, LeO (laws_szItemS.l0 k y0 y1 y2) (laws_szItemS.l0 (k + 1) y0 y1 y2))
 | 0 => fun _ _ _ r h => by simp [laws_szItemS.l0] at h
 | k + 1 => by
  have ih0 := laws_szItemS.mono_l k
  ·
   intro y0 y1 y2
   unfold laws_szItemS.l0
   repeat' first
   | (with_reducible exact ih0 _ _ _)
   | (with_reducible exact LeO.refl _)
   | (with_reducible exact LeO.none _)
   | (with_reducible refine LeO.ite ?_ ?_)
   | (with_reducible refine LeO.bind ?_ (fun _ => ?_))
   | exact ih0 _ _ _
   | exact LeO.none _
   | refine LeO.ite ?_ ?_
   | refine LeO.bind ?_ (fun _ => ?_)
theorem laws_szItemS.mono : ∀ a0 a1 k, LeO (laws_szItemS.f k a0 a1) (laws_szItemS.f (k + 1) a0 a1) := by
 intro a0 a1 k
 have ih0 := laws_szItemS.mono_l k
 unfold laws_szItemS.f
 repeat' first
   | (with_reducible exact ih0 _ _ _)
   | (with_reducible exact LeO.refl _)
   | (with_reducible exact LeO.none _)
   | (with_reducible refine LeO.ite ?_ ?_)
   | (with_reducible refine LeO.bind ?_ (fun _ => ?_))
   | exact ih0 _ _ _
   | exact LeO.none _
   | refine LeO.ite ?_ ?_
   | refine LeO.bind ?_ (fun _ => ?_)
set_option maxHeartbeats 8000000 in
set_option maxRecDepth 100000 in
theorem laws_szItemS.calls (k : Nat) (A0 : Option Addr) (c0 : Nat) (l0 : List (S32)) (a1 : Int) (r : Int) (w : World) (hr0 : Kd.C k32 w A0 l0.length l0) (hc0 : l0.length ≤ c0) (h : laws_szItemS.f k l0 a1 = some r) :
  Calls Try.prog 4 #[.slice A0 l0.length c0, .int .i64 a1] w fun e w' => e = .returned (.int .i64 r) ∧ Below w.heap.size w w' := by
 have hu32 := Try.underlying32
 have HR0 := Aside0.mk hr0
 have HC0 := Aside0.mk hc0
 clear hr0 hc0
 have HB := Aside0.mk (Below.refl w.heap.size w)
 have H : (if (wrap64 (a1 - (l0.length : Int))) < 0 then (some (-1)) else (laws_szItemS.l0 k l0 (wrap64 (a1 - (l0.length : Int))) 0)) = some r := h
 clear h
 by_cases c3 : (wrap64 (a1 - (l0.length : Int))) < 0
 ·
  rw [if_pos c3] at H
  have c3b0 : decide ((wrap64 (a1 - (l0.length : Int))) < 0) = true := decide_eq_true c3
  clear c3
  obtain rfl := Option.some.inj H
  go_enter Try.func4, Try.ntmps4
  go_wp2
  go_ret
  exact ⟨by first | rfl | (simp [errW_none, errW_some] <;> rfl) | (simp [*, errW_none, errW_some] <;> rfl), by repeat (first | (with_reducible first | exact HB.out | apply below_alloc | apply pw_below_drewN | apply below_drew1) | exact HB.out)⟩
 ·
  rw [if_neg c3] at H
  have c3b0 : decide ((wrap64 (a1 - (l0.length : Int))) < 0) = false := decide_eq_false c3
  clear c3
  have H' := Aside0.mk H
  clear H
  go_enter Try.func4, Try.ntmps4
  go_wp2
  go_loopg [1, 5] k (fun kq v1 v5 w' => ∃ (x1_1 : Int) (x5_1 : Int), v1 = .int .i64 x1_1 ∧ v5 = .int .i64 x5_1 ∧ Aside0 (laws_szItemS.l0 kq l0 x1_1 x5_1 = some r) ∧ Aside0 (kq ≤ k) ∧ Aside0 (Below w.heap.size w w'))
  case atStart => exact ⟨(wrap64 (a1 - (l0.length : Int))), (0), zb2_1, zb2_1, H', ⟨Nat.le_refl _⟩, ⟨by repeat (first | (with_reducible first | exact HB.out | apply below_alloc | apply pw_below_drewN | apply below_drew1) | exact HB.out)⟩⟩
  case round =>
   clear H'
   try clear p2
   try clear c3
   try clear c3b0
   obtain ⟨x1_1, x5_1, rfl, rfl, HA, HK1, HB⟩ := hrel
   cases gk with
   | zero => exact absurd HA.out (by simp [laws_szItemS.l0])
   | succ k1 =>
    have H := HA.out
    clear HA
    simp only [laws_szItemS.l0] at H
    by_cases c4 : x5_1 < (l0.length : Int)
    ·
     rw [if_pos c4] at H
     have c4b0 : decide (x5_1 < (l0.length : Int)) = true := decide_eq_true c4
     clear c4
     by_cases c5 : 0 ≤ x5_1
     ·
      rw [if_pos c5] at H
      have c5b0 : decide (0 ≤ x5_1) = true := decide_eq_true c5
      clear c5
      replace H := Option.bind_eq_some_iff.mp H
      obtain ⟨t103, A60, H⟩ := H
      replace H : (if t103 < 0 then (some (-1)) else (laws_szItemS.l0 k1 l0 t103 (wrap64 (x5_1 + 1)))) = some r := H
      have A6 := Aside0.mk A60
      clear A60
      by_cases c7 : t103 < 0
      ·
       rw [if_pos c7] at H
       have c7b0 : decide (t103 < 0) = true := decide_eq_true c7
       clear c7
       obtain rfl := Option.some.inj H
       have p102 : 0 ≤ (x5_1 : Int) := of_decide_eq_true zb3_1
       have q102 : x5_1 < (l0.length : Int) := of_decide_eq_true zb3_1
       obtain ⟨ad102, e102, hx102_0, hx102_1, hx102_2, hx102_3, hx102_4⟩ := at_T32 HR0.out x5_1 p102 q102
       cases e102
       replace hx102_0 := (HB.out.cell (World.block_lt_of_cell? w _ hx102_0)).trans hx102_0
       replace hx102_1 := (HB.out.cell (World.block_lt_of_cell? w _ hx102_1)).trans hx102_1
       replace hx102_2 := (HB.out.cell (World.block_lt_of_cell? w _ hx102_2)).trans hx102_2
       replace hx102_3 := (HB.out.cell (World.block_lt_of_cell? w _ hx102_3)).trans hx102_3
       replace hx102_4 := (HB.out.cell (World.block_lt_of_cell? w _ hx102_4)).trans hx102_4
       replace p102 := eq_true p102
       replace q102 := eq_true q102
       go_wp2_with (first | ((with_reducible refine gate_callee (f := 11) rfl ?_); refine goesL_ (some 23) rfl rfl Try.func11 (by kernel_rfl) rfl #[.agg #[.string ((rd_T32 l0 x5_1).f0), .string ((rd_T32 l0 x5_1).f1), .string ((rd_T32 l0 x5_1).f2), .int .i64 ((rd_T32 l0 x5_1).f3), .bool ((rd_T32 l0 x5_1).f4)], .int .i64 x1_1] rfl (by (try simp only [List.map_toArray, List.map_cons, List.map_nil]); first | done | rfl | (simp only [List.length_drop, List.length_take]; rfl)) ?_; (with_reducible refine (laws_szItem.calls ((rd_T32 l0 x5_1).f0) ((rd_T32 l0 x5_1).f1) ((rd_T32 l0 x5_1).f2) ((rd_T32 l0 x5_1).f3) ((rd_T32 l0 x5_1).f4) x1_1 t103 _ A6.out).mono ?_); rintro e w8 ⟨rfl, hb⟩; refine ⟨_, rfl, ?_⟩; have n0_ := Aside0.mk (below_step zb0_1 hb); clear HB; have HB := n0_; clear n0_; (try clear hb); (try clear hb2); (try clear hk); (try clear hi)))
       go_ret
       exact ⟨by first | rfl | (simp [errW_none, errW_some] <;> rfl) | (simp [*, errW_none, errW_some] <;> rfl), by repeat (first | (with_reducible first | exact HB.out | apply below_alloc | apply pw_below_drewN | apply below_drew1) | exact HB.out)⟩
      ·
       rw [if_neg c7] at H
       have c7b0 : decide (t103 < 0) = false := decide_eq_false c7
       clear c7
       have H' := Aside0.mk H
       clear H
       have p102 : 0 ≤ (x5_1 : Int) := of_decide_eq_true zb3_1
       have q102 : x5_1 < (l0.length : Int) := of_decide_eq_true zb3_1
       obtain ⟨ad102, e102, hx102_0, hx102_1, hx102_2, hx102_3, hx102_4⟩ := at_T32 HR0.out x5_1 p102 q102
       cases e102
       replace hx102_0 := (HB.out.cell (World.block_lt_of_cell? w _ hx102_0)).trans hx102_0
       replace hx102_1 := (HB.out.cell (World.block_lt_of_cell? w _ hx102_1)).trans hx102_1
       replace hx102_2 := (HB.out.cell (World.block_lt_of_cell? w _ hx102_2)).trans hx102_2
       replace hx102_3 := (HB.out.cell (World.block_lt_of_cell? w _ hx102_3)).trans hx102_3
       replace hx102_4 := (HB.out.cell (World.block_lt_of_cell? w _ hx102_4)).trans hx102_4
       replace p102 := eq_true p102
       replace q102 := eq_true q102
       go_wp2_with (first | ((with_reducible refine gate_callee (f := 11) rfl ?_); refine goesL_ (some 23) rfl rfl Try.func11 (by kernel_rfl) rfl #[.agg #[.string ((rd_T32 l0 x5_1).f0), .string ((rd_T32 l0 x5_1).f1), .string ((rd_T32 l0 x5_1).f2), .int .i64 ((rd_T32 l0 x5_1).f3), .bool ((rd_T32 l0 x5_1).f4)], .int .i64 x1_1] rfl (by (try simp only [List.map_toArray, List.map_cons, List.map_nil]); first | done | rfl | (simp only [List.length_drop, List.length_take]; rfl)) ?_; (with_reducible refine (laws_szItem.calls ((rd_T32 l0 x5_1).f0) ((rd_T32 l0 x5_1).f1) ((rd_T32 l0 x5_1).f2) ((rd_T32 l0 x5_1).f3) ((rd_T32 l0 x5_1).f4) x1_1 t103 _ A6.out).mono ?_); rintro e w9 ⟨rfl, hb⟩; refine ⟨_, rfl, ?_⟩; have n0_ := Aside0.mk (below_step zb0_1 hb); clear HB; have HB := n0_; clear n0_; (try clear hb); (try clear hb2); (try clear hk); (try clear hi)))
       go_roundg k1
       case measure => have := HK1.out; omega
       case rel => exact ⟨(t103), (wrap64 (x5_1 + 1)), zb2_1, zb2_1, H', ⟨by have := HK1.out; omega⟩, ⟨by repeat (first | (with_reducible first | exact HB.out | apply below_alloc | apply pw_below_drewN | apply below_drew1) | exact HB.out)⟩⟩
     ·
      rw [if_neg c5] at H
      exact absurd H (by simp)
    ·
     rw [if_neg c4] at H
     have c4b0 : decide (x5_1 < (l0.length : Int)) = false := decide_eq_false c4
     clear c4
     obtain rfl := Option.some.inj H
     go_wp2
     go_ret
     exact ⟨by first | rfl | (simp [errW_none, errW_some] <;> rfl) | (simp [*, errW_none, errW_some] <;> rfl), by repeat (first | (with_reducible first | exact HB.out | apply below_alloc | apply pw_below_drewN | apply below_drew1) | exact HB.out)⟩

/-! ### spec_l07Put: function 12 -/
def spec_l07Put.l0 : Nat → List (S33) → Int → ByteArray → ByteArray → ByteArray → Int → Bool → Option ((List (S33)))
 | 0, _, _, _, _, _, _, _ => none
 | k + 1, x0, x5, x105000, x105001, x105002, x105003, x105004 => if x5 < (x0.length : Int) then (if 0 ≤ x5 then (if (Op.bytesLess (((rd_T33 x0 x5).f0).toList) x105000.toList) = true then (spec_l07Put.l0 k x0 (wrap64 (x5 + 1)) x105000 x105001 x105002 x105003 x105004) else ((some (([] : List (S33)) : List (S33))).bind fun y106 => (if x5 ≤ (x0.length : Int) then ((some (x0.take (x5 : Int).toNat : List (S33))).bind fun y109 => (if y106.length + y109.length < 2199023255552 then ((some (y106 ++ y109 : List (S33))).bind fun y113 => (if y113.length < 2199023255552 then ((some (y113 ++ [(⟨x105000, x105001, x105002, x105003, x105004⟩ : S33)] : List (S33))).bind fun y116 => (if ((rd_T33 x0 x5).f0).toList = x105000.toList then (if 0 ≤ (wrap64 (x5 + 1)) then (if (wrap64 (x5 + 1)) ≤ (x0.length : Int) then ((some (x0.drop ((wrap64 (x5 + 1)) : Int).toNat : List (S33))).bind fun y120 => (if y116.length + y120.length < 2199023255552 then (some (y116 ++ y120)) else (none))) else (none)) else (none)) else ((some (x0.drop (x5 : Int).toNat : List (S33))).bind fun y127 => (if y116.length + y127.length < 2199023255552 then (some (y116 ++ y127)) else (none))))) else (none))) else (none))) else (none)))) else (none)) else ((some (([] : List (S33)) : List (S33))).bind fun y134 => (if 0 ≤ x5 then (if x5 ≤ (x0.length : Int) then ((some (x0.take (x5 : Int).toNat : List (S33))).bind fun y137 => (if y134.length + y137.length < 2199023255552 then ((some (y134 ++ y137 : List (S33))).bind fun y141 => (if y141.length < 2199023255552 then ((some (y141 ++ [(⟨x105000, x105001, x105002, x105003, x105004⟩ : S33)] : List (S33))).bind fun y144 => ((some (x0.drop (x5 : Int).toNat : List (S33))).bind fun y147 => (if y144.length + y147.length < 2199023255552 then (some (y144 ++ y147)) else (none)))) else (none))) else (none))) else (none)) else (none)))
def spec_l07Put.f (k : Nat) (l0 : List (S33)) (a1_0 : ByteArray) (a1_1 : ByteArray) (a1_2 : ByteArray) (a1_3 : Int) (a1_4 : Bool) : Option ((List (S33))) := spec_l07Put.l0 k l0 0 a1_0 a1_1 a1_2 a1_3 a1_4
theorem spec_l07Put.mono_l : ∀ k, (∀ y0 y1 y2 y3 y4 y5 y6, LeO (spec_l07Put.l0 k y0 y1 y2 y3 y4 y5 y6) (spec_l07Put.l0 (k + 1) y0 y1 y2 y3 y4 y5 y6))
 | 0 => fun _ _ _ _ _ _ _ r h => by simp [spec_l07Put.l0] at h
 | k + 1 => by
  have ih0 := spec_l07Put.mono_l k
  ·
   intro y0 y1 y2 y3 y4 y5 y6
   unfold spec_l07Put.l0
   repeat' first
   | (with_reducible exact ih0 _ _ _ _ _ _ _)
   | (with_reducible exact LeO.refl _)
   | (with_reducible exact LeO.none _)
   | (with_reducible refine LeO.ite ?_ ?_)
   | (with_reducible refine LeO.bind ?_ (fun _ => ?_))
   | exact ih0 _ _ _ _ _ _ _
   | exact LeO.none _
   | refine LeO.ite ?_ ?_
   | refine LeO.bind ?_ (fun _ => ?_)
theorem spec_l07Put.mono : ∀ a0 a1 a2 a3 a4 a5 k, LeO (spec_l07Put.f k a0 a1 a2 a3 a4 a5) (spec_l07Put.f (k + 1) a0 a1 a2 a3 a4 a5) := by
 intro a0 a1 a2 a3 a4 a5 k
 have ih0 := spec_l07Put.mono_l k
 unfold spec_l07Put.f
 repeat' first
   | (with_reducible exact ih0 _ _ _ _ _ _ _)
   | (with_reducible exact LeO.refl _)
   | (with_reducible exact LeO.none _)
   | (with_reducible refine LeO.ite ?_ ?_)
   | (with_reducible refine LeO.bind ?_ (fun _ => ?_))
   | exact ih0 _ _ _ _ _ _ _
   | exact LeO.none _
   | refine LeO.ite ?_ ?_
   | refine LeO.bind ?_ (fun _ => ?_)
set_option maxHeartbeats 8000000 in
set_option maxRecDepth 100000 in
theorem spec_l07Put.calls (k : Nat) (A0 : Option Addr) (c0 : Nat) (l0 : List (S33)) (a1_0 : ByteArray) (a1_1 : ByteArray) (a1_2 : ByteArray) (a1_3 : Int) (a1_4 : Bool) (r : List (S33)) (w : World) (hr0 : Kd.C k33 w A0 l0.length l0) (hc0 : l0.length ≤ c0) (h : spec_l07Put.f k l0 a1_0 a1_1 a1_2 a1_3 a1_4 = some r) :
  Calls Try.prog 12 #[.slice A0 l0.length c0, .agg #[.string a1_0, .string a1_1, .string a1_2, .int .i64 a1_3, .bool a1_4]] w fun e w' => ∃ v0_ : Value, e = .returned (v0_) ∧ Kd.R k33 33 w' w.heap.size (fun _ => True) v0_ r ∧ Below w.heap.size w w' := by
 have hu33 := Try.underlying33
 have HR0 := Aside0.mk hr0
 have HC0 := Aside0.mk hc0
 clear hr0 hc0
 have HB := Aside0.mk (Below.refl w.heap.size w)
 have H : (spec_l07Put.l0 k l0 0 a1_0 a1_1 a1_2 a1_3 a1_4) = some r := h
 clear h
 have H' := Aside0.mk H
 clear H
 go_enter Try.func12, Try.ntmps12
 go_wp2_with (first | ((with_reducible refine gate_dst (N := 3) rfl ?_); refine box_event ?hg (N := 3) ?hd (cs := #[.string a1_0, .string a1_1, .string a1_2, .int .i64 a1_3, .bool a1_4]) (t := 33) ?hr ?_; (case hd => rfl); (case hg => rfl); (case hr => first | (go_simp; done) | (go_simp; rfl)); intro gb104 hg w3 hbox hb; have n0_ := Aside0.mk (below_step zb0_1 hb); have n1_ := Aside0.mk (hbox); have n2_ := Aside0.mk ((zb1_1 : w.heap.size ≤ gb104)); have n3_ := Aside0.mk ((zb1_1 : w.heap.size ≤ gb104)); clear HB; have HB := n0_; have BK104 := n1_; have GW104 := n2_; have GE104 := n3_; clear n0_ n1_ n2_ n3_; clear hb hbox hg))
 repeat (go_quiet (first | ((with_reducible refine gate_dst (N := 3) rfl ?_); refine box_event ?hg (N := 3) ?hd (cs := #[.string a1_0, .string a1_1, .string a1_2, .int .i64 a1_3, .bool a1_4]) (t := 33) ?hr ?_; (case hd => rfl); (case hg => rfl); (case hr => first | (go_simp; done) | (go_simp; rfl)); intro gb104 hg w3 hbox hb; have n0_ := Aside0.mk (below_step zb0_1 hb); have n1_ := Aside0.mk (hbox); have n2_ := Aside0.mk ((zb1_1 : w.heap.size ≤ gb104)); have n3_ := Aside0.mk ((zb1_1 : w.heap.size ≤ gb104)); clear HB; have HB := n0_; have BK104 := n1_; have GW104 := n2_; have GE104 := n3_; clear n0_ n1_ n2_ n3_; clear hb hbox hg)); try go_wp2_with (first | ((with_reducible refine gate_dst (N := 3) rfl ?_); refine box_event ?hg (N := 3) ?hd (cs := #[.string a1_0, .string a1_1, .string a1_2, .int .i64 a1_3, .bool a1_4]) (t := 33) ?hr ?_; (case hd => rfl); (case hg => rfl); (case hr => first | (go_simp; done) | (go_simp; rfl)); intro gb104 hg w3 hbox hb; have n0_ := Aside0.mk (below_step zb0_1 hb); have n1_ := Aside0.mk (hbox); have n2_ := Aside0.mk ((zb1_1 : w.heap.size ≤ gb104)); have n3_ := Aside0.mk ((zb1_1 : w.heap.size ≤ gb104)); clear HB; have HB := n0_; have BK104 := n1_; have GW104 := n2_; have GE104 := n3_; clear n0_ n1_ n2_ n3_; clear hb hbox hg)))
 go_loopg [5] k (fun kq v5 w' => ∃ (x5_1 : Int), v5 = .int .i64 x5_1 ∧ Aside0 (spec_l07Put.l0 kq l0 x5_1 a1_0 a1_1 a1_2 a1_3 a1_4 = some r) ∧ Aside0 (kq ≤ k) ∧ Aside0 (w'.heap[gb104]? = some (.cells #[.string a1_0, .string a1_1, .string a1_2, .int .i64 a1_3, .bool a1_4] 33 (0, 0))) ∧ Aside0 (Below w.heap.size w w'))
 case atStart => exact ⟨(0), zb2_1, H', ⟨Nat.le_refl _⟩, ⟨by (with_reducible repeat (first | refine blk_drewN ?_ _ | refine blk_drew ?_ | refine blk_alloc ?_ _)); exact BK104.out⟩, ⟨by repeat (first | (with_reducible first | exact HB.out | apply below_alloc | apply pw_below_drewN | apply below_drew1 | refine below_set ?_ GE104.out) | exact HB.out)⟩⟩
 case round =>
  clear H'
  try clear c1
  try clear p2
  obtain ⟨x5_1, rfl, HA, HK1, BK104, HB⟩ := hrel
  cases gk with
  | zero => exact absurd HA.out (by simp [spec_l07Put.l0])
  | succ k1 =>
   have H := HA.out
   clear HA
   simp only [spec_l07Put.l0] at H
   by_cases c4 : x5_1 < (l0.length : Int)
   ·
    rw [if_pos c4] at H
    have c4b0 : decide (x5_1 < (l0.length : Int)) = true := decide_eq_true c4
    clear c4
    by_cases c5 : 0 ≤ x5_1
    ·
     rw [if_pos c5] at H
     have c5b0 : decide (0 ≤ x5_1) = true := decide_eq_true c5
     clear c5
     by_cases c6 : (Op.bytesLess (((rd_T33 l0 x5_1).f0).toList) a1_0.toList) = true
     ·
      rw [if_pos c6] at H
      have c6b0 : (Op.bytesLess (((rd_T33 l0 x5_1).f0).toList) a1_0.toList) = true := c6
      clear c6
      have H' := Aside0.mk H
      clear H
      have p105 : 0 ≤ (x5_1 : Int) := of_decide_eq_true zb3_1
      have q105 : x5_1 < (l0.length : Int) := of_decide_eq_true zb3_1
      obtain ⟨ad105, e105, hx105_0, hx105_1, hx105_2, hx105_3, hx105_4⟩ := at_T33 HR0.out x5_1 p105 q105
      cases e105
      replace hx105_0 := (HB.out.cell (World.block_lt_of_cell? w _ hx105_0)).trans hx105_0
      replace hx105_1 := (HB.out.cell (World.block_lt_of_cell? w _ hx105_1)).trans hx105_1
      replace hx105_2 := (HB.out.cell (World.block_lt_of_cell? w _ hx105_2)).trans hx105_2
      replace hx105_3 := (HB.out.cell (World.block_lt_of_cell? w _ hx105_3)).trans hx105_3
      replace hx105_4 := (HB.out.cell (World.block_lt_of_cell? w _ hx105_4)).trans hx105_4
      replace p105 := eq_true p105
      replace q105 := eq_true q105
      have hcz7_0 := bcq_1 BK104.out 0
      have hcz7_1 := bcq_1 BK104.out 1
      have hcz7_2 := bcq_1 BK104.out 2
      have hcz7_3 := bcq_1 BK104.out 3
      have hcz7_4 := bcq_1 BK104.out 4
      have hfz7_0 := blk_frozen BK104.out 0
      have hfz7_1 := blk_frozen BK104.out 1
      have hfz7_2 := blk_frozen BK104.out 2
      have hfz7_3 := blk_frozen BK104.out 3
      have hfz7_4 := blk_frozen BK104.out 4
      go_wp2
      repeat (go_quiet (fail); try go_wp2)
      go_roundg k1
      case measure => have := HK1.out; omega
      case rel => exact ⟨(wrap64 (x5_1 + 1)), zb2_1, H', ⟨by have := HK1.out; omega⟩, ⟨by (with_reducible repeat (first | refine blk_drewN ?_ _ | refine blk_drew ?_ | refine blk_alloc ?_ _)); exact BK104.out⟩, ⟨by repeat (first | (with_reducible first | exact HB.out | apply below_alloc | apply pw_below_drewN | apply below_drew1 | refine below_set ?_ GE104.out) | exact HB.out)⟩⟩
     ·
      rw [if_neg c6] at H
      have c6b0 : (Op.bytesLess (((rd_T33 l0 x5_1).f0).toList) a1_0.toList) = false := by simpa using c6
      clear c6
      obtain ⟨y106, hy106⟩ : ∃ y_ : List (S33), y_ = (([] : List (S33))) := ⟨_, rfl⟩
      replace H : (if x5_1 ≤ (l0.length : Int) then ((some (l0.take (x5_1 : Int).toNat : List (S33))).bind fun y109 => (if y106.length + y109.length < 2199023255552 then ((some (y106 ++ y109 : List (S33))).bind fun y113 => (if y113.length < 2199023255552 then ((some (y113 ++ [(⟨a1_0, a1_1, a1_2, a1_3, a1_4⟩ : S33)] : List (S33))).bind fun y116 => (if ((rd_T33 l0 x5_1).f0).toList = a1_0.toList then (if 0 ≤ (wrap64 (x5_1 + 1)) then (if (wrap64 (x5_1 + 1)) ≤ (l0.length : Int) then ((some (l0.drop ((wrap64 (x5_1 + 1)) : Int).toNat : List (S33))).bind fun y120 => (if y116.length + y120.length < 2199023255552 then (some (y116 ++ y120)) else (none))) else (none)) else (none)) else ((some (l0.drop (x5_1 : Int).toNat : List (S33))).bind fun y127 => (if y116.length + y127.length < 2199023255552 then (some (y116 ++ y127)) else (none))))) else (none))) else (none))) else (none)) = some r := by first | (rw [hy106]; with_reducible exact H) | (have H2_ := (Option.bind_some _ _).symm.trans H; rw [hy106]; with_reducible exact H2_) | (have H2_ := (Option.bind_some _ _).symm.trans H; with_reducible exact H2_) | with_reducible exact H | (rw [hy106]; exact H) | exact H
      have Ny106 := Aside0.mk hy106
      clear hy106
      have c8b0 := eq_true (of_decide_eq_true zb3_1 : 0 ≤ x5_1)
      by_cases c9 : x5_1 ≤ (l0.length : Int)
      ·
       rw [if_pos c9] at H
       have c9b0 := eq_true c9
       have c9b1 : decide (x5_1 ≤ (l0.length : Int)) = true := decide_eq_true c9
       clear c9
       obtain ⟨y109, hy109⟩ : ∃ y_ : List (S33), y_ = (l0.take (x5_1 : Int).toNat) := ⟨_, rfl⟩
       replace H : (if y106.length + y109.length < 2199023255552 then ((some (y106 ++ y109 : List (S33))).bind fun y113 => (if y113.length < 2199023255552 then ((some (y113 ++ [(⟨a1_0, a1_1, a1_2, a1_3, a1_4⟩ : S33)] : List (S33))).bind fun y116 => (if ((rd_T33 l0 x5_1).f0).toList = a1_0.toList then (if 0 ≤ (wrap64 (x5_1 + 1)) then (if (wrap64 (x5_1 + 1)) ≤ (l0.length : Int) then ((some (l0.drop ((wrap64 (x5_1 + 1)) : Int).toNat : List (S33))).bind fun y120 => (if y116.length + y120.length < 2199023255552 then (some (y116 ++ y120)) else (none))) else (none)) else (none)) else ((some (l0.drop (x5_1 : Int).toNat : List (S33))).bind fun y127 => (if y116.length + y127.length < 2199023255552 then (some (y116 ++ y127)) else (none))))) else (none))) else (none)) = some r := by first | (rw [hy109]; with_reducible exact H) | (have H2_ := (Option.bind_some _ _).symm.trans H; rw [hy109]; with_reducible exact H2_) | (have H2_ := (Option.bind_some _ _).symm.trans H; with_reducible exact H2_) | with_reducible exact H | (rw [hy109]; exact H) | exact H
       have Ny109 := Aside0.mk hy109
       clear hy109
       by_cases c10 : y106.length + y109.length < 2199023255552
       ·
        rw [if_pos c10] at H
        have LMc10 := Aside0.mk c10
        clear c10
        obtain ⟨y113, hy113⟩ : ∃ y_ : List (S33), y_ = (y106 ++ y109) := ⟨_, rfl⟩
        replace H : (if y113.length < 2199023255552 then ((some (y113 ++ [(⟨a1_0, a1_1, a1_2, a1_3, a1_4⟩ : S33)] : List (S33))).bind fun y116 => (if ((rd_T33 l0 x5_1).f0).toList = a1_0.toList then (if 0 ≤ (wrap64 (x5_1 + 1)) then (if (wrap64 (x5_1 + 1)) ≤ (l0.length : Int) then ((some (l0.drop ((wrap64 (x5_1 + 1)) : Int).toNat : List (S33))).bind fun y120 => (if y116.length + y120.length < 2199023255552 then (some (y116 ++ y120)) else (none))) else (none)) else (none)) else ((some (l0.drop (x5_1 : Int).toNat : List (S33))).bind fun y127 => (if y116.length + y127.length < 2199023255552 then (some (y116 ++ y127)) else (none))))) else (none)) = some r := by first | (rw [hy113]; with_reducible exact H) | (have H2_ := (Option.bind_some _ _).symm.trans H; rw [hy113]; with_reducible exact H2_) | (have H2_ := (Option.bind_some _ _).symm.trans H; with_reducible exact H2_) | with_reducible exact H | (rw [hy113]; exact H) | exact H
        have Ny113 := Aside0.mk hy113
        clear hy113
        by_cases c11 : y113.length < 2199023255552
        ·
         rw [if_pos c11] at H
         have LMc11 := Aside0.mk c11
         clear c11
         obtain ⟨y116, hy116⟩ : ∃ y_ : List (S33), y_ = (y113 ++ [(⟨a1_0, a1_1, a1_2, a1_3, a1_4⟩ : S33)]) := ⟨_, rfl⟩
         replace H : (if ((rd_T33 l0 x5_1).f0).toList = a1_0.toList then (if 0 ≤ (wrap64 (x5_1 + 1)) then (if (wrap64 (x5_1 + 1)) ≤ (l0.length : Int) then ((some (l0.drop ((wrap64 (x5_1 + 1)) : Int).toNat : List (S33))).bind fun y120 => (if y116.length + y120.length < 2199023255552 then (some (y116 ++ y120)) else (none))) else (none)) else (none)) else ((some (l0.drop (x5_1 : Int).toNat : List (S33))).bind fun y127 => (if y116.length + y127.length < 2199023255552 then (some (y116 ++ y127)) else (none)))) = some r := by first | (rw [hy116]; with_reducible exact H) | (have H2_ := (Option.bind_some _ _).symm.trans H; rw [hy116]; with_reducible exact H2_) | (have H2_ := (Option.bind_some _ _).symm.trans H; with_reducible exact H2_) | with_reducible exact H | (rw [hy116]; exact H) | exact H
         have Ny116 := Aside0.mk hy116
         clear hy116
         by_cases c12 : ((rd_T33 l0 x5_1).f0).toList = a1_0.toList
         ·
          rw [if_pos c12] at H
          have c12b0 : (((rd_T33 l0 x5_1).f0).toList == a1_0.toList) = true := beq_iff_eq.mpr c12
          have c12b1 : (((rd_T33 l0 x5_1).f0).toList != a1_0.toList) = false := bne_eq_false_iff_eq.mpr c12
          clear c12
          obtain ⟨ji13, hji13⟩ : ∃ j_ : Int, (wrap64 (x5_1 + 1)) = j_ := ⟨_, rfl⟩
          replace H : (if 0 ≤ (ji13) then (if (ji13) ≤ (l0.length : Int) then ((some (l0.drop ((ji13) : Int).toNat : List (S33))).bind fun y120 => (if y116.length + y120.length < 2199023255552 then (some (y116 ++ y120)) else (none))) else (none)) else (none)) = some r := by first | (rw [hji13] at H; exact H) | (simp only [hji13] at H ⊢; exact H)
          have hji13w : (IntKind.i64.wrap (x5_1 + 1)) = ji13 := (i64_w _).trans hji13
          by_cases c14 : 0 ≤ (ji13)
          ·
           rw [if_pos c14] at H
           have c14b0 := eq_true c14
           have c14b1 : decide (0 ≤ (ji13)) = true := decide_eq_true c14
           clear c14
           by_cases c15 : (ji13) ≤ (l0.length : Int)
           ·
            rw [if_pos c15] at H
            have c15b0 := eq_true c15
            have c15b1 : decide ((ji13) ≤ (l0.length : Int)) = true := decide_eq_true c15
            clear c15
            obtain ⟨y120, hy120⟩ : ∃ y_ : List (S33), y_ = (l0.drop ((ji13) : Int).toNat) := ⟨_, rfl⟩
            replace H : (if y116.length + y120.length < 2199023255552 then (some (y116 ++ y120)) else (none)) = some r := by first | (rw [hy120]; with_reducible exact H) | (have H2_ := (Option.bind_some _ _).symm.trans H; rw [hy120]; with_reducible exact H2_) | (have H2_ := (Option.bind_some _ _).symm.trans H; with_reducible exact H2_) | with_reducible exact H | (rw [hy120]; exact H) | exact H
            have Ny120 := Aside0.mk hy120
            clear hy120
            by_cases c16 : y116.length + y120.length < 2199023255552
            ·
             rw [if_pos c16] at H
             have LMc16 := Aside0.mk c16
             clear c16
             obtain ⟨y124, hy124⟩ : ∃ y_ : List (S33), y_ = (y116 ++ y120) := ⟨_, rfl⟩
             replace H : (some y124) = some r := by first | (rw [hy124]; with_reducible exact H) | (have H2_ := (Option.bind_some _ _).symm.trans H; rw [hy124]; with_reducible exact H2_) | (have H2_ := (Option.bind_some _ _).symm.trans H; with_reducible exact H2_) | with_reducible exact H | (rw [hy124]; exact H) | exact H
             have Ny124 := Aside0.mk hy124
             clear hy124
             obtain rfl := Option.some.inj H
             have p105 : 0 ≤ (x5_1 : Int) := of_decide_eq_true zb3_1
             have q105 : x5_1 < (l0.length : Int) := of_decide_eq_true zb3_1
             obtain ⟨ad105, e105, hx105_0, hx105_1, hx105_2, hx105_3, hx105_4⟩ := at_T33 HR0.out x5_1 p105 q105
             cases e105
             replace hx105_0 := (HB.out.cell (World.block_lt_of_cell? w _ hx105_0)).trans hx105_0
             replace hx105_1 := (HB.out.cell (World.block_lt_of_cell? w _ hx105_1)).trans hx105_1
             replace hx105_2 := (HB.out.cell (World.block_lt_of_cell? w _ hx105_2)).trans hx105_2
             replace hx105_3 := (HB.out.cell (World.block_lt_of_cell? w _ hx105_3)).trans hx105_3
             replace hx105_4 := (HB.out.cell (World.block_lt_of_cell? w _ hx105_4)).trans hx105_4
             replace p105 := eq_true p105
             replace q105 := eq_true q105
             have hcz17_0 := bcq_1 BK104.out 0
             have hcz17_1 := bcq_1 BK104.out 1
             have hcz17_2 := bcq_1 BK104.out 2
             have hcz17_3 := bcq_1 BK104.out 3
             have hcz17_4 := bcq_1 BK104.out 4
             have hfz17_0 := blk_frozen BK104.out 0
             have hfz17_1 := blk_frozen BK104.out 1
             have hfz17_2 := blk_frozen BK104.out 2
             have hfz17_3 := blk_frozen BK104.out 3
             have hfz17_4 := blk_frozen BK104.out 4
             go_wp2_with (first | ((with_reducible refine gate_dst (N := 23) rfl ?_); refine Kd.R_lit k33 _ 33 ?hg (N := 23) ?hd (xs := ([] : List (S33))) (inner := []) (ok := fun _ => True) (okp := fun _ => True) ?hr ?hp (fun _ hk => hk) trivial (Below.refl _ _) (Nat.le_refl _) (by simp) ?_; (case hd => rfl); (case hg => rfl); (case hr => first | (go_simp; done) | (go_simp; rfl)); (case hp => exact (Reps.none _ _)); intro v107 w18 ho19 hb hg_ hnew_; clear hg_ hnew_; (first | rw [← Ny106.out] at ho19 | (simp only [Int.reduceToNat] at ho19; rw [← Ny106.out] at ho19)); have n0_ := Aside0.mk (Kd.R_lower (Kd.R_newB ho19 (g := gb104) (o := .cells #[.string a1_0, .string a1_1, .string a1_2, .int .i64 a1_3, .bool a1_4] 33 (0, 0)) zb4_1) (below_size zb5_1)); have n1_ := Aside0.mk (blk_below (g := gb104) (o := .cells #[.string a1_0, .string a1_1, .string a1_2, .int .i64 a1_3, .bool a1_4] 33 (0, 0)) zb4_1 hb); have n2_ := Aside0.mk (below_step zb5_1 hb); clear BK104; clear HB; have HO108 := n0_; have BK104 := n1_; have HB := n2_; clear n0_ n1_ n2_; clear hb ho19; have q20 : (x5_1 : Int) ≤ ((l0.length : Int) : Int) := of_decide_eq_true zb3_1; obtain ⟨i020, hi020, _, hsz20, _⟩ := info_parts info33; have hroom20 : l0.length ≤ c0 := HC0.out; have hC20 : Kd.C k33 _ (some ad105) l0.length l0 := HR0.out; have hcut20 := cut_to (P := Try.prog) 24 33 .i64 Try.underlying24 hi020 (some ad105) l0.length c0 x5_1 (of_decide_eq_true zb3_1) q20 hroom20; have hr20 := Kd.C_take (m := (x5_1 : Int).toNat) hC20 (by omega); have hy20 : y109.length = (x5_1 : Int).toNat := (by rw [Ny109.out, List.length_take]; omega); rw [← Ny109.out] at hr20; rw [← hy20] at hcut20; have HR112 := Aside0.mk hr20; have HC112 := Aside0.mk (show y109.length ≤ c0 from by omega); clear hr20 hC20 hroom20 hi020 hsz20; have KY20 := Aside0.mk hy20; clear hy20; replace q20 := eq_true q20) | ((with_reducible refine gate_builtin (b := .append) (xs := #[.tmp 23, .tmp 26]) rfl ?_); at_builtin; refine Kd.R_append_rows k33 (w0 := w) w.heap.size rfl (.tmp 23) (.tmp 26) 24 33 (.agg #[(.string ⟨#[]⟩), (.string ⟨#[]⟩), (.string ⟨#[]⟩), (.int .i64 0), (.bool false)]) 64 rfl Try.underlying24 info33 rfl (by decide) (by omega) v107 y106 y109 _ _ _ (fun k_ => k_ ≠ gb104) (fun _ => False) rfl rfl ?aO ?aR (fun _ _ h => h) (fun _ h => h.elim) ?aF ?aB ?aS ?aL ?_; (case aR => repeat (first | exact (Kd.C_below HR112.out HB.out) | exact (Kd.C_drewN (Kd.C_below HR112.out HB.out) _) | (with_reducible refine Kd.C_alloc ?_ _) | (with_reducible refine Kd.C_drewN ?_ _) | (with_reducible refine Kd.C_drew ?_))); (case aB => exact zb5_1); (case aF => exact (fun k_ hk => Kd.freshB (g := gb104) (o := .cells #[.string a1_0, .string a1_1, .string a1_2, .int .i64 a1_3, .bool a1_4] 33 (0, 0)) zb4_1 k_ hk)); (case aO => exact zb6_1); (case aS => exact (below_size zb5_1)); (case aL => have := LMc10.out; omega); intro v114 w21 ho hb hg hat; rw [← Ny113.out] at ho; have n0_ := Aside0.mk (blk_grown (g := gb104) (o := .cells #[.string a1_0, .string a1_1, .string a1_2, .int .i64 a1_3, .bool a1_4] 33 (0, 0)) zb4_1 hg (Kd.R_away HO108.out (fun _ hk => hk.2))); have n1_ := Aside0.mk (hb); have n2_ := Aside0.mk (ho); clear BK104; clear HB; clear HO108; have BK104 := n0_; have HB := n1_; have HO115 := n2_; clear n0_ n1_ n2_; clear ho hb hg hat; have hcz22_0 := bcq_1 BK104.out 0; have hcz22_1 := bcq_1 BK104.out 1; have hcz22_2 := bcq_1 BK104.out 2; have hcz22_3 := bcq_1 BK104.out 3; have hcz22_4 := bcq_1 BK104.out 4; have hfz22_0 := blk_frozen BK104.out 0; have hfz22_1 := blk_frozen BK104.out 1; have hfz22_2 := blk_frozen BK104.out 2; have hfz22_3 := blk_frozen BK104.out 3; have hfz22_4 := blk_frozen BK104.out 4) | ((with_reducible refine gate_builtin (b := .append) (xs := #[.tmp 28, .tmp 30]) rfl ?_); at_builtin; refine Kd.R_append k33 (w0 := w) w.heap.size rfl (.tmp 28) (.tmp 30) 24 33 (.agg #[(.string ⟨#[]⟩), (.string ⟨#[]⟩), (.string ⟨#[]⟩), (.int .i64 0), (.bool false)]) 64 rfl Try.underlying24 info33 rfl (by decide) (by omega) v114 y113 (⟨a1_0, a1_1, a1_2, a1_3, a1_4⟩ : S33) [.string a1_0, .string a1_1, .string a1_2, .int .i64 a1_3, .bool a1_4] (fun k_ => k_ ≠ gb104) (fun _ => False) rfl rfl ?aP (fun _ hk => hk.elim) ?aF ?aO ?aB ?aS ?aL ?_; (case aP => exact k33_mkM _ _ _ (⟨a1_0, a1_1, a1_2, a1_3, a1_4⟩ : S33)); (case aB => exact zb5_1); (case aF => exact (fun k_ hk => Kd.freshB (g := gb104) (o := .cells #[.string a1_0, .string a1_1, .string a1_2, .int .i64 a1_3, .bool a1_4] 33 (0, 0)) zb4_1 k_ hk)); (case aO => exact zb7_1); (case aS => exact (below_size zb5_1)); (case aL => have := LMc11.out; omega); intro v117 w23 ho hb hg hat; rw [← Ny116.out] at ho; have n0_ := Aside0.mk (blk_grown (g := gb104) (o := .cells #[.string a1_0, .string a1_1, .string a1_2, .int .i64 a1_3, .bool a1_4] 33 (0, 0)) zb4_1 hg (Kd.R_away HO115.out (fun _ hk => hk))); have n1_ := Aside0.mk (hb); have n2_ := Aside0.mk (ho); clear BK104; clear HB; clear HO115; have BK104 := n0_; have HB := n1_; have HO118 := n2_; clear n0_ n1_ n2_; clear ho hb hg hat; have p119 : 0 ≤ (x5_1 : Int) := of_decide_eq_true zb3_1; have q119 : x5_1 < (l0.length : Int) := of_decide_eq_true zb3_1; obtain ⟨ad119, e119, hx119_0, hx119_1, hx119_2, hx119_3, hx119_4⟩ := at_T33 HR0.out x5_1 p119 q119; obtain rfl : ad105 = ad119 := (by injection e119); replace hx119_0 := (HB.out.cell (World.block_lt_of_cell? w _ hx119_0)).trans hx119_0; replace hx119_1 := (HB.out.cell (World.block_lt_of_cell? w _ hx119_1)).trans hx119_1; replace hx119_2 := (HB.out.cell (World.block_lt_of_cell? w _ hx119_2)).trans hx119_2; replace hx119_3 := (HB.out.cell (World.block_lt_of_cell? w _ hx119_3)).trans hx119_3; replace hx119_4 := (HB.out.cell (World.block_lt_of_cell? w _ hx119_4)).trans hx119_4; replace p119 := eq_true p119; replace q119 := eq_true q119; have hcz24_0 := bcq_1 BK104.out 0; have hcz24_1 := bcq_1 BK104.out 1; have hcz24_2 := bcq_1 BK104.out 2; have hcz24_3 := bcq_1 BK104.out 3; have hcz24_4 := bcq_1 BK104.out 4; have hfz24_0 := blk_frozen BK104.out 0; have hfz24_1 := blk_frozen BK104.out 1; have hfz24_2 := blk_frozen BK104.out 2; have hfz24_3 := blk_frozen BK104.out 3; have hfz24_4 := blk_frozen BK104.out 4; have q25 : ((ji13) : Int) ≤ ((l0.length : Int) : Int) := of_decide_eq_true zb3_1; obtain ⟨i025, hi025, _, hsz25, _⟩ := info_parts info33; have hroom25 : l0.length ≤ c0 := HC0.out; have hC25 : Kd.C k33 _ (some ad105) l0.length l0 := HR0.out; have q025 : (0 : Int) ≤ ((ji13) : Int) := of_decide_eq_true zb3_1; have hcut25 := cut_from (P := Try.prog) 24 33 .i64 Try.underlying24 hi025 5 hsz25 (some ad105) l0.length c0 (ji13) q025 q25; have hr25 := Kd.C_drop (m := ((ji13) : Int).toNat) (c := c0) hC25 (by omega) hroom25; obtain ⟨A25, hA25⟩ : ∃ A1, A1 = (if c0 = ((ji13) : Int).toNat then (some ad105) else ((some ad105) : Option Addr).map (·.add (((ji13) : Int).toNat * 5))) := ⟨_, rfl⟩; obtain ⟨c25, hc25⟩ : ∃ c1, c1 = c0 - ((ji13) : Int).toNat := ⟨_, rfl⟩; have hy25 : y120.length = l0.length - ((ji13) : Int).toNat := (by rw [Ny120.out, List.length_drop] <;> omega); rw [show (l0).drop ((ji13) : Int).toNat = y120 from Ny120.out.symm] at hr25; replace hr25 : Kd.C k33 _ A25 y120.length y120 := (by rw [hA25]; exact hr25); rw [← hy25, ← hA25, ← hc25] at hcut25; have HR123 := Aside0.mk hr25; have HC123 := Aside0.mk (show y120.length ≤ c25 from by rw [hy25, hc25]; exact Nat.sub_le_sub_right hroom25 _); clear hr25 hC25 hroom25 hi025 hsz25 hc25; have KY25 := Aside0.mk hy25; have KA25 := Aside0.mk hA25; clear hy25 hA25; replace q25 := eq_true q25) | ((with_reducible refine gate_builtin (b := .append) (xs := #[.tmp 48, .tmp 51]) rfl ?_); at_builtin; refine Kd.R_append_rows k33 (w0 := w) w.heap.size rfl (.tmp 48) (.tmp 51) 24 33 (.agg #[(.string ⟨#[]⟩), (.string ⟨#[]⟩), (.string ⟨#[]⟩), (.int .i64 0), (.bool false)]) 64 rfl Try.underlying24 info33 rfl (by decide) (by omega) v117 y116 y120 _ _ _ (fun k_ => k_ ≠ gb104) (fun _ => False) rfl rfl ?aO ?aR (fun _ _ h => h) (fun _ h => h.elim) ?aF ?aB ?aS ?aL ?_; (case aR => repeat (first | exact (Kd.C_below HR123.out HB.out) | exact (Kd.C_drewN (Kd.C_below HR123.out HB.out) _) | (with_reducible refine Kd.C_alloc ?_ _) | (with_reducible refine Kd.C_drewN ?_ _) | (with_reducible refine Kd.C_drew ?_))); (case aB => exact zb5_1); (case aF => exact (fun k_ hk => Kd.freshB (g := gb104) (o := .cells #[.string a1_0, .string a1_1, .string a1_2, .int .i64 a1_3, .bool a1_4] 33 (0, 0)) zb4_1 k_ hk)); (case aO => exact zb8_1); (case aS => exact (below_size zb5_1)); (case aL => have := LMc16.out; omega); intro v125 w26 ho hb hg hat; rw [← Ny124.out] at ho; have n0_ := Aside0.mk (blk_grown (g := gb104) (o := .cells #[.string a1_0, .string a1_1, .string a1_2, .int .i64 a1_3, .bool a1_4] 33 (0, 0)) zb4_1 hg (Kd.R_away HO118.out (fun _ hk => hk))); have n1_ := Aside0.mk (hb); have n2_ := Aside0.mk (ho); clear BK104; clear HB; clear HO118; have BK104 := n0_; have HB := n1_; have HO126 := n2_; clear n0_ n1_ n2_; clear ho hb hg hat))
             repeat (go_quiet (first | ((with_reducible refine gate_dst (N := 23) rfl ?_); refine Kd.R_lit k33 _ 33 ?hg (N := 23) ?hd (xs := ([] : List (S33))) (inner := []) (ok := fun _ => True) (okp := fun _ => True) ?hr ?hp (fun _ hk => hk) trivial (Below.refl _ _) (Nat.le_refl _) (by simp) ?_; (case hd => rfl); (case hg => rfl); (case hr => first | (go_simp; done) | (go_simp; rfl)); (case hp => exact (Reps.none _ _)); intro v107 w18 ho19 hb hg_ hnew_; clear hg_ hnew_; (first | rw [← Ny106.out] at ho19 | (simp only [Int.reduceToNat] at ho19; rw [← Ny106.out] at ho19)); have n0_ := Aside0.mk (Kd.R_lower (Kd.R_newB ho19 (g := gb104) (o := .cells #[.string a1_0, .string a1_1, .string a1_2, .int .i64 a1_3, .bool a1_4] 33 (0, 0)) zb4_1) (below_size zb5_1)); have n1_ := Aside0.mk (blk_below (g := gb104) (o := .cells #[.string a1_0, .string a1_1, .string a1_2, .int .i64 a1_3, .bool a1_4] 33 (0, 0)) zb4_1 hb); have n2_ := Aside0.mk (below_step zb5_1 hb); clear BK104; clear HB; have HO108 := n0_; have BK104 := n1_; have HB := n2_; clear n0_ n1_ n2_; clear hb ho19; have q20 : (x5_1 : Int) ≤ ((l0.length : Int) : Int) := of_decide_eq_true zb3_1; obtain ⟨i020, hi020, _, hsz20, _⟩ := info_parts info33; have hroom20 : l0.length ≤ c0 := HC0.out; have hC20 : Kd.C k33 _ (some ad105) l0.length l0 := HR0.out; have hcut20 := cut_to (P := Try.prog) 24 33 .i64 Try.underlying24 hi020 (some ad105) l0.length c0 x5_1 (of_decide_eq_true zb3_1) q20 hroom20; have hr20 := Kd.C_take (m := (x5_1 : Int).toNat) hC20 (by omega); have hy20 : y109.length = (x5_1 : Int).toNat := (by rw [Ny109.out, List.length_take]; omega); rw [← Ny109.out] at hr20; rw [← hy20] at hcut20; have HR112 := Aside0.mk hr20; have HC112 := Aside0.mk (show y109.length ≤ c0 from by omega); clear hr20 hC20 hroom20 hi020 hsz20; have KY20 := Aside0.mk hy20; clear hy20; replace q20 := eq_true q20) | ((with_reducible refine gate_builtin (b := .append) (xs := #[.tmp 23, .tmp 26]) rfl ?_); at_builtin; refine Kd.R_append_rows k33 (w0 := w) w.heap.size rfl (.tmp 23) (.tmp 26) 24 33 (.agg #[(.string ⟨#[]⟩), (.string ⟨#[]⟩), (.string ⟨#[]⟩), (.int .i64 0), (.bool false)]) 64 rfl Try.underlying24 info33 rfl (by decide) (by omega) v107 y106 y109 _ _ _ (fun k_ => k_ ≠ gb104) (fun _ => False) rfl rfl ?aO ?aR (fun _ _ h => h) (fun _ h => h.elim) ?aF ?aB ?aS ?aL ?_; (case aR => repeat (first | exact (Kd.C_below HR112.out HB.out) | exact (Kd.C_drewN (Kd.C_below HR112.out HB.out) _) | (with_reducible refine Kd.C_alloc ?_ _) | (with_reducible refine Kd.C_drewN ?_ _) | (with_reducible refine Kd.C_drew ?_))); (case aB => exact zb5_1); (case aF => exact (fun k_ hk => Kd.freshB (g := gb104) (o := .cells #[.string a1_0, .string a1_1, .string a1_2, .int .i64 a1_3, .bool a1_4] 33 (0, 0)) zb4_1 k_ hk)); (case aO => exact zb6_1); (case aS => exact (below_size zb5_1)); (case aL => have := LMc10.out; omega); intro v114 w21 ho hb hg hat; rw [← Ny113.out] at ho; have n0_ := Aside0.mk (blk_grown (g := gb104) (o := .cells #[.string a1_0, .string a1_1, .string a1_2, .int .i64 a1_3, .bool a1_4] 33 (0, 0)) zb4_1 hg (Kd.R_away HO108.out (fun _ hk => hk.2))); have n1_ := Aside0.mk (hb); have n2_ := Aside0.mk (ho); clear BK104; clear HB; clear HO108; have BK104 := n0_; have HB := n1_; have HO115 := n2_; clear n0_ n1_ n2_; clear ho hb hg hat; have hcz22_0 := bcq_1 BK104.out 0; have hcz22_1 := bcq_1 BK104.out 1; have hcz22_2 := bcq_1 BK104.out 2; have hcz22_3 := bcq_1 BK104.out 3; have hcz22_4 := bcq_1 BK104.out 4; have hfz22_0 := blk_frozen BK104.out 0; have hfz22_1 := blk_frozen BK104.out 1; have hfz22_2 := blk_frozen BK104.out 2; have hfz22_3 := blk_frozen BK104.out 3; have hfz22_4 := blk_frozen BK104.out 4) | ((with_reducible refine gate_builtin (b := .append) (xs := #[.tmp 28, .tmp 30]) rfl ?_); at_builtin; refine Kd.R_append k33 (w0 := w) w.heap.size rfl (.tmp 28) (.tmp 30) 24 33 (.agg #[(.string ⟨#[]⟩), (.string ⟨#[]⟩), (.string ⟨#[]⟩), (.int .i64 0), (.bool false)]) 64 rfl Try.underlying24 info33 rfl (by decide) (by omega) v114 y113 (⟨a1_0, a1_1, a1_2, a1_3, a1_4⟩ : S33) [.string a1_0, .string a1_1, .string a1_2, .int .i64 a1_3, .bool a1_4] (fun k_ => k_ ≠ gb104) (fun _ => False) rfl rfl ?aP (fun _ hk => hk.elim) ?aF ?aO ?aB ?aS ?aL ?_; (case aP => exact k33_mkM _ _ _ (⟨a1_0, a1_1, a1_2, a1_3, a1_4⟩ : S33)); (case aB => exact zb5_1); (case aF => exact (fun k_ hk => Kd.freshB (g := gb104) (o := .cells #[.string a1_0, .string a1_1, .string a1_2, .int .i64 a1_3, .bool a1_4] 33 (0, 0)) zb4_1 k_ hk)); (case aO => exact zb7_1); (case aS => exact (below_size zb5_1)); (case aL => have := LMc11.out; omega); intro v117 w23 ho hb hg hat; rw [← Ny116.out] at ho; have n0_ := Aside0.mk (blk_grown (g := gb104) (o := .cells #[.string a1_0, .string a1_1, .string a1_2, .int .i64 a1_3, .bool a1_4] 33 (0, 0)) zb4_1 hg (Kd.R_away HO115.out (fun _ hk => hk))); have n1_ := Aside0.mk (hb); have n2_ := Aside0.mk (ho); clear BK104; clear HB; clear HO115; have BK104 := n0_; have HB := n1_; have HO118 := n2_; clear n0_ n1_ n2_; clear ho hb hg hat; have p119 : 0 ≤ (x5_1 : Int) := of_decide_eq_true zb3_1; have q119 : x5_1 < (l0.length : Int) := of_decide_eq_true zb3_1; obtain ⟨ad119, e119, hx119_0, hx119_1, hx119_2, hx119_3, hx119_4⟩ := at_T33 HR0.out x5_1 p119 q119; obtain rfl : ad105 = ad119 := (by injection e119); replace hx119_0 := (HB.out.cell (World.block_lt_of_cell? w _ hx119_0)).trans hx119_0; replace hx119_1 := (HB.out.cell (World.block_lt_of_cell? w _ hx119_1)).trans hx119_1; replace hx119_2 := (HB.out.cell (World.block_lt_of_cell? w _ hx119_2)).trans hx119_2; replace hx119_3 := (HB.out.cell (World.block_lt_of_cell? w _ hx119_3)).trans hx119_3; replace hx119_4 := (HB.out.cell (World.block_lt_of_cell? w _ hx119_4)).trans hx119_4; replace p119 := eq_true p119; replace q119 := eq_true q119; have hcz24_0 := bcq_1 BK104.out 0; have hcz24_1 := bcq_1 BK104.out 1; have hcz24_2 := bcq_1 BK104.out 2; have hcz24_3 := bcq_1 BK104.out 3; have hcz24_4 := bcq_1 BK104.out 4; have hfz24_0 := blk_frozen BK104.out 0; have hfz24_1 := blk_frozen BK104.out 1; have hfz24_2 := blk_frozen BK104.out 2; have hfz24_3 := blk_frozen BK104.out 3; have hfz24_4 := blk_frozen BK104.out 4; have q25 : ((ji13) : Int) ≤ ((l0.length : Int) : Int) := of_decide_eq_true zb3_1; obtain ⟨i025, hi025, _, hsz25, _⟩ := info_parts info33; have hroom25 : l0.length ≤ c0 := HC0.out; have hC25 : Kd.C k33 _ (some ad105) l0.length l0 := HR0.out; have q025 : (0 : Int) ≤ ((ji13) : Int) := of_decide_eq_true zb3_1; have hcut25 := cut_from (P := Try.prog) 24 33 .i64 Try.underlying24 hi025 5 hsz25 (some ad105) l0.length c0 (ji13) q025 q25; have hr25 := Kd.C_drop (m := ((ji13) : Int).toNat) (c := c0) hC25 (by omega) hroom25; obtain ⟨A25, hA25⟩ : ∃ A1, A1 = (if c0 = ((ji13) : Int).toNat then (some ad105) else ((some ad105) : Option Addr).map (·.add (((ji13) : Int).toNat * 5))) := ⟨_, rfl⟩; obtain ⟨c25, hc25⟩ : ∃ c1, c1 = c0 - ((ji13) : Int).toNat := ⟨_, rfl⟩; have hy25 : y120.length = l0.length - ((ji13) : Int).toNat := (by rw [Ny120.out, List.length_drop] <;> omega); rw [show (l0).drop ((ji13) : Int).toNat = y120 from Ny120.out.symm] at hr25; replace hr25 : Kd.C k33 _ A25 y120.length y120 := (by rw [hA25]; exact hr25); rw [← hy25, ← hA25, ← hc25] at hcut25; have HR123 := Aside0.mk hr25; have HC123 := Aside0.mk (show y120.length ≤ c25 from by rw [hy25, hc25]; exact Nat.sub_le_sub_right hroom25 _); clear hr25 hC25 hroom25 hi025 hsz25 hc25; have KY25 := Aside0.mk hy25; have KA25 := Aside0.mk hA25; clear hy25 hA25; replace q25 := eq_true q25) | ((with_reducible refine gate_builtin (b := .append) (xs := #[.tmp 48, .tmp 51]) rfl ?_); at_builtin; refine Kd.R_append_rows k33 (w0 := w) w.heap.size rfl (.tmp 48) (.tmp 51) 24 33 (.agg #[(.string ⟨#[]⟩), (.string ⟨#[]⟩), (.string ⟨#[]⟩), (.int .i64 0), (.bool false)]) 64 rfl Try.underlying24 info33 rfl (by decide) (by omega) v117 y116 y120 _ _ _ (fun k_ => k_ ≠ gb104) (fun _ => False) rfl rfl ?aO ?aR (fun _ _ h => h) (fun _ h => h.elim) ?aF ?aB ?aS ?aL ?_; (case aR => repeat (first | exact (Kd.C_below HR123.out HB.out) | exact (Kd.C_drewN (Kd.C_below HR123.out HB.out) _) | (with_reducible refine Kd.C_alloc ?_ _) | (with_reducible refine Kd.C_drewN ?_ _) | (with_reducible refine Kd.C_drew ?_))); (case aB => exact zb5_1); (case aF => exact (fun k_ hk => Kd.freshB (g := gb104) (o := .cells #[.string a1_0, .string a1_1, .string a1_2, .int .i64 a1_3, .bool a1_4] 33 (0, 0)) zb4_1 k_ hk)); (case aO => exact zb8_1); (case aS => exact (below_size zb5_1)); (case aL => have := LMc16.out; omega); intro v125 w26 ho hb hg hat; rw [← Ny124.out] at ho; have n0_ := Aside0.mk (blk_grown (g := gb104) (o := .cells #[.string a1_0, .string a1_1, .string a1_2, .int .i64 a1_3, .bool a1_4] 33 (0, 0)) zb4_1 hg (Kd.R_away HO118.out (fun _ hk => hk))); have n1_ := Aside0.mk (hb); have n2_ := Aside0.mk (ho); clear BK104; clear HB; clear HO118; have BK104 := n0_; have HB := n1_; have HO126 := n2_; clear n0_ n1_ n2_; clear ho hb hg hat)); try go_wp2_with (first | ((with_reducible refine gate_dst (N := 23) rfl ?_); refine Kd.R_lit k33 _ 33 ?hg (N := 23) ?hd (xs := ([] : List (S33))) (inner := []) (ok := fun _ => True) (okp := fun _ => True) ?hr ?hp (fun _ hk => hk) trivial (Below.refl _ _) (Nat.le_refl _) (by simp) ?_; (case hd => rfl); (case hg => rfl); (case hr => first | (go_simp; done) | (go_simp; rfl)); (case hp => exact (Reps.none _ _)); intro v107 w18 ho19 hb hg_ hnew_; clear hg_ hnew_; (first | rw [← Ny106.out] at ho19 | (simp only [Int.reduceToNat] at ho19; rw [← Ny106.out] at ho19)); have n0_ := Aside0.mk (Kd.R_lower (Kd.R_newB ho19 (g := gb104) (o := .cells #[.string a1_0, .string a1_1, .string a1_2, .int .i64 a1_3, .bool a1_4] 33 (0, 0)) zb4_1) (below_size zb5_1)); have n1_ := Aside0.mk (blk_below (g := gb104) (o := .cells #[.string a1_0, .string a1_1, .string a1_2, .int .i64 a1_3, .bool a1_4] 33 (0, 0)) zb4_1 hb); have n2_ := Aside0.mk (below_step zb5_1 hb); clear BK104; clear HB; have HO108 := n0_; have BK104 := n1_; have HB := n2_; clear n0_ n1_ n2_; clear hb ho19; have q20 : (x5_1 : Int) ≤ ((l0.length : Int) : Int) := of_decide_eq_true zb3_1; obtain ⟨i020, hi020, _, hsz20, _⟩ := info_parts info33; have hroom20 : l0.length ≤ c0 := HC0.out; have hC20 : Kd.C k33 _ (some ad105) l0.length l0 := HR0.out; have hcut20 := cut_to (P := Try.prog) 24 33 .i64 Try.underlying24 hi020 (some ad105) l0.length c0 x5_1 (of_decide_eq_true zb3_1) q20 hroom20; have hr20 := Kd.C_take (m := (x5_1 : Int).toNat) hC20 (by omega); have hy20 : y109.length = (x5_1 : Int).toNat := (by rw [Ny109.out, List.length_take]; omega); rw [← Ny109.out] at hr20; rw [← hy20] at hcut20; have HR112 := Aside0.mk hr20; have HC112 := Aside0.mk (show y109.length ≤ c0 from by omega); clear hr20 hC20 hroom20 hi020 hsz20; have KY20 := Aside0.mk hy20; clear hy20; replace q20 := eq_true q20) | ((with_reducible refine gate_builtin (b := .append) (xs := #[.tmp 23, .tmp 26]) rfl ?_); at_builtin; refine Kd.R_append_rows k33 (w0 := w) w.heap.size rfl (.tmp 23) (.tmp 26) 24 33 (.agg #[(.string ⟨#[]⟩), (.string ⟨#[]⟩), (.string ⟨#[]⟩), (.int .i64 0), (.bool false)]) 64 rfl Try.underlying24 info33 rfl (by decide) (by omega) v107 y106 y109 _ _ _ (fun k_ => k_ ≠ gb104) (fun _ => False) rfl rfl ?aO ?aR (fun _ _ h => h) (fun _ h => h.elim) ?aF ?aB ?aS ?aL ?_; (case aR => repeat (first | exact (Kd.C_below HR112.out HB.out) | exact (Kd.C_drewN (Kd.C_below HR112.out HB.out) _) | (with_reducible refine Kd.C_alloc ?_ _) | (with_reducible refine Kd.C_drewN ?_ _) | (with_reducible refine Kd.C_drew ?_))); (case aB => exact zb5_1); (case aF => exact (fun k_ hk => Kd.freshB (g := gb104) (o := .cells #[.string a1_0, .string a1_1, .string a1_2, .int .i64 a1_3, .bool a1_4] 33 (0, 0)) zb4_1 k_ hk)); (case aO => exact zb6_1); (case aS => exact (below_size zb5_1)); (case aL => have := LMc10.out; omega); intro v114 w21 ho hb hg hat; rw [← Ny113.out] at ho; have n0_ := Aside0.mk (blk_grown (g := gb104) (o := .cells #[.string a1_0, .string a1_1, .string a1_2, .int .i64 a1_3, .bool a1_4] 33 (0, 0)) zb4_1 hg (Kd.R_away HO108.out (fun _ hk => hk.2))); have n1_ := Aside0.mk (hb); have n2_ := Aside0.mk (ho); clear BK104; clear HB; clear HO108; have BK104 := n0_; have HB := n1_; have HO115 := n2_; clear n0_ n1_ n2_; clear ho hb hg hat; have hcz22_0 := bcq_1 BK104.out 0; have hcz22_1 := bcq_1 BK104.out 1; have hcz22_2 := bcq_1 BK104.out 2; have hcz22_3 := bcq_1 BK104.out 3; have hcz22_4 := bcq_1 BK104.out 4; have hfz22_0 := blk_frozen BK104.out 0; have hfz22_1 := blk_frozen BK104.out 1; have hfz22_2 := blk_frozen BK104.out 2; have hfz22_3 := blk_frozen BK104.out 3; have hfz22_4 := blk_frozen BK104.out 4) | ((with_reducible refine gate_builtin (b := .append) (xs := #[.tmp 28, .tmp 30]) rfl ?_); at_builtin; refine Kd.R_append k33 (w0 := w) w.heap.size rfl (.tmp 28) (.tmp 30) 24 33 (.agg #[(.string ⟨#[]⟩), (.string ⟨#[]⟩), (.string ⟨#[]⟩), (.int .i64 0), (.bool false)]) 64 rfl Try.underlying24 info33 rfl (by decide) (by omega) v114 y113 (⟨a1_0, a1_1, a1_2, a1_3, a1_4⟩ : S33) [.string a1_0, .string a1_1, .string a1_2, .int .i64 a1_3, .bool a1_4] (fun k_ => k_ ≠ gb104) (fun _ => False) rfl rfl ?aP (fun _ hk => hk.elim) ?aF ?aO ?aB ?aS ?aL ?_; (case aP => exact k33_mkM _ _ _ (⟨a1_0, a1_1, a1_2, a1_3, a1_4⟩ : S33)); (case aB => exact zb5_1); (case aF => exact (fun k_ hk => Kd.freshB (g := gb104) (o := .cells #[.string a1_0, .string a1_1, .string a1_2, .int .i64 a1_3, .bool a1_4] 33 (0, 0)) zb4_1 k_ hk)); (case aO => exact zb7_1); (case aS => exact (below_size zb5_1)); (case aL => have := LMc11.out; omega); intro v117 w23 ho hb hg hat; rw [← Ny116.out] at ho; have n0_ := Aside0.mk (blk_grown (g := gb104) (o := .cells #[.string a1_0, .string a1_1, .string a1_2, .int .i64 a1_3, .bool a1_4] 33 (0, 0)) zb4_1 hg (Kd.R_away HO115.out (fun _ hk => hk))); have n1_ := Aside0.mk (hb); have n2_ := Aside0.mk (ho); clear BK104; clear HB; clear HO115; have BK104 := n0_; have HB := n1_; have HO118 := n2_; clear n0_ n1_ n2_; clear ho hb hg hat; have p119 : 0 ≤ (x5_1 : Int) := of_decide_eq_true zb3_1; have q119 : x5_1 < (l0.length : Int) := of_decide_eq_true zb3_1; obtain ⟨ad119, e119, hx119_0, hx119_1, hx119_2, hx119_3, hx119_4⟩ := at_T33 HR0.out x5_1 p119 q119; obtain rfl : ad105 = ad119 := (by injection e119); replace hx119_0 := (HB.out.cell (World.block_lt_of_cell? w _ hx119_0)).trans hx119_0; replace hx119_1 := (HB.out.cell (World.block_lt_of_cell? w _ hx119_1)).trans hx119_1; replace hx119_2 := (HB.out.cell (World.block_lt_of_cell? w _ hx119_2)).trans hx119_2; replace hx119_3 := (HB.out.cell (World.block_lt_of_cell? w _ hx119_3)).trans hx119_3; replace hx119_4 := (HB.out.cell (World.block_lt_of_cell? w _ hx119_4)).trans hx119_4; replace p119 := eq_true p119; replace q119 := eq_true q119; have hcz24_0 := bcq_1 BK104.out 0; have hcz24_1 := bcq_1 BK104.out 1; have hcz24_2 := bcq_1 BK104.out 2; have hcz24_3 := bcq_1 BK104.out 3; have hcz24_4 := bcq_1 BK104.out 4; have hfz24_0 := blk_frozen BK104.out 0; have hfz24_1 := blk_frozen BK104.out 1; have hfz24_2 := blk_frozen BK104.out 2; have hfz24_3 := blk_frozen BK104.out 3; have hfz24_4 := blk_frozen BK104.out 4; have q25 : ((ji13) : Int) ≤ ((l0.length : Int) : Int) := of_decide_eq_true zb3_1; obtain ⟨i025, hi025, _, hsz25, _⟩ := info_parts info33; have hroom25 : l0.length ≤ c0 := HC0.out; have hC25 : Kd.C k33 _ (some ad105) l0.length l0 := HR0.out; have q025 : (0 : Int) ≤ ((ji13) : Int) := of_decide_eq_true zb3_1; have hcut25 := cut_from (P := Try.prog) 24 33 .i64 Try.underlying24 hi025 5 hsz25 (some ad105) l0.length c0 (ji13) q025 q25; have hr25 := Kd.C_drop (m := ((ji13) : Int).toNat) (c := c0) hC25 (by omega) hroom25; obtain ⟨A25, hA25⟩ : ∃ A1, A1 = (if c0 = ((ji13) : Int).toNat then (some ad105) else ((some ad105) : Option Addr).map (·.add (((ji13) : Int).toNat * 5))) := ⟨_, rfl⟩; obtain ⟨c25, hc25⟩ : ∃ c1, c1 = c0 - ((ji13) : Int).toNat := ⟨_, rfl⟩; have hy25 : y120.length = l0.length - ((ji13) : Int).toNat := (by rw [Ny120.out, List.length_drop] <;> omega); rw [show (l0).drop ((ji13) : Int).toNat = y120 from Ny120.out.symm] at hr25; replace hr25 : Kd.C k33 _ A25 y120.length y120 := (by rw [hA25]; exact hr25); rw [← hy25, ← hA25, ← hc25] at hcut25; have HR123 := Aside0.mk hr25; have HC123 := Aside0.mk (show y120.length ≤ c25 from by rw [hy25, hc25]; exact Nat.sub_le_sub_right hroom25 _); clear hr25 hC25 hroom25 hi025 hsz25 hc25; have KY25 := Aside0.mk hy25; have KA25 := Aside0.mk hA25; clear hy25 hA25; replace q25 := eq_true q25) | ((with_reducible refine gate_builtin (b := .append) (xs := #[.tmp 48, .tmp 51]) rfl ?_); at_builtin; refine Kd.R_append_rows k33 (w0 := w) w.heap.size rfl (.tmp 48) (.tmp 51) 24 33 (.agg #[(.string ⟨#[]⟩), (.string ⟨#[]⟩), (.string ⟨#[]⟩), (.int .i64 0), (.bool false)]) 64 rfl Try.underlying24 info33 rfl (by decide) (by omega) v117 y116 y120 _ _ _ (fun k_ => k_ ≠ gb104) (fun _ => False) rfl rfl ?aO ?aR (fun _ _ h => h) (fun _ h => h.elim) ?aF ?aB ?aS ?aL ?_; (case aR => repeat (first | exact (Kd.C_below HR123.out HB.out) | exact (Kd.C_drewN (Kd.C_below HR123.out HB.out) _) | (with_reducible refine Kd.C_alloc ?_ _) | (with_reducible refine Kd.C_drewN ?_ _) | (with_reducible refine Kd.C_drew ?_))); (case aB => exact zb5_1); (case aF => exact (fun k_ hk => Kd.freshB (g := gb104) (o := .cells #[.string a1_0, .string a1_1, .string a1_2, .int .i64 a1_3, .bool a1_4] 33 (0, 0)) zb4_1 k_ hk)); (case aO => exact zb8_1); (case aS => exact (below_size zb5_1)); (case aL => have := LMc16.out; omega); intro v125 w26 ho hb hg hat; rw [← Ny124.out] at ho; have n0_ := Aside0.mk (blk_grown (g := gb104) (o := .cells #[.string a1_0, .string a1_1, .string a1_2, .int .i64 a1_3, .bool a1_4] 33 (0, 0)) zb4_1 hg (Kd.R_away HO118.out (fun _ hk => hk))); have n1_ := Aside0.mk (hb); have n2_ := Aside0.mk (ho); clear BK104; clear HB; clear HO118; have BK104 := n0_; have HB := n1_; have HO126 := n2_; clear n0_ n1_ n2_; clear ho hb hg hat)))
             go_ret
             exact ⟨_, by first | rfl | (simp [errW_none, errW_some] <;> rfl) | (simp only [← hji13]; first | rfl | (simp [errW_none, errW_some] <;> rfl)) | (simp [*, errW_none, errW_some] <;> rfl), by (with_reducible repeat (first | apply Kd.R_alloc | apply Kd.R_drewN | apply Kd.R_drew)); exact Kd.R_mono HO126.out (fun _ hk => trivial), by repeat (first | (with_reducible first | exact HB.out | apply below_alloc | apply pw_below_drewN | apply below_drew1 | refine below_set ?_ GE104.out) | exact HB.out)⟩
            ·
             rw [if_neg c16] at H
             exact absurd H (by simp)
           ·
            rw [if_neg c15] at H
            exact absurd H (by simp)
          ·
           rw [if_neg c14] at H
           exact absurd H (by simp)
         ·
          rw [if_neg c12] at H
          have c12b0 : (((rd_T33 l0 x5_1).f0).toList == a1_0.toList) = false := beq_eq_false_iff_ne.mpr c12
          have c12b1 : (((rd_T33 l0 x5_1).f0).toList != a1_0.toList) = true := bne_iff_ne.mpr c12
          have c27b0 := eq_true (of_decide_eq_true zb3_1 : 0 ≤ x5_1)
          have c28b0 := eq_true (of_decide_eq_true zb3_1 : x5_1 ≤ (l0.length : Int))
          obtain ⟨y127, hy127⟩ : ∃ y_ : List (S33), y_ = (l0.drop (x5_1 : Int).toNat) := ⟨_, rfl⟩
          replace H : (if y116.length + y127.length < 2199023255552 then (some (y116 ++ y127)) else (none)) = some r := by first | (rw [hy127]; with_reducible exact H) | (have H2_ := (Option.bind_some _ _).symm.trans H; rw [hy127]; with_reducible exact H2_) | (have H2_ := (Option.bind_some _ _).symm.trans H; with_reducible exact H2_) | with_reducible exact H | (rw [hy127]; exact H) | exact H
          have Ny127 := Aside0.mk hy127
          clear hy127
          by_cases c29 : y116.length + y127.length < 2199023255552
          ·
           rw [if_pos c29] at H
           have LMc29 := Aside0.mk c29
           clear c29
           obtain ⟨y131, hy131⟩ : ∃ y_ : List (S33), y_ = (y116 ++ y127) := ⟨_, rfl⟩
           replace H : (some y131) = some r := by first | (rw [hy131]; with_reducible exact H) | (have H2_ := (Option.bind_some _ _).symm.trans H; rw [hy131]; with_reducible exact H2_) | (have H2_ := (Option.bind_some _ _).symm.trans H; with_reducible exact H2_) | with_reducible exact H | (rw [hy131]; exact H) | exact H
           have Ny131 := Aside0.mk hy131
           clear hy131
           obtain rfl := Option.some.inj H
           have p105 : 0 ≤ (x5_1 : Int) := of_decide_eq_true zb3_1
           have q105 : x5_1 < (l0.length : Int) := of_decide_eq_true zb3_1
           obtain ⟨ad105, e105, hx105_0, hx105_1, hx105_2, hx105_3, hx105_4⟩ := at_T33 HR0.out x5_1 p105 q105
           cases e105
           replace hx105_0 := (HB.out.cell (World.block_lt_of_cell? w _ hx105_0)).trans hx105_0
           replace hx105_1 := (HB.out.cell (World.block_lt_of_cell? w _ hx105_1)).trans hx105_1
           replace hx105_2 := (HB.out.cell (World.block_lt_of_cell? w _ hx105_2)).trans hx105_2
           replace hx105_3 := (HB.out.cell (World.block_lt_of_cell? w _ hx105_3)).trans hx105_3
           replace hx105_4 := (HB.out.cell (World.block_lt_of_cell? w _ hx105_4)).trans hx105_4
           replace p105 := eq_true p105
           replace q105 := eq_true q105
           have hcz30_0 := bcq_1 BK104.out 0
           have hcz30_1 := bcq_1 BK104.out 1
           have hcz30_2 := bcq_1 BK104.out 2
           have hcz30_3 := bcq_1 BK104.out 3
           have hcz30_4 := bcq_1 BK104.out 4
           have hfz30_0 := blk_frozen BK104.out 0
           have hfz30_1 := blk_frozen BK104.out 1
           have hfz30_2 := blk_frozen BK104.out 2
           have hfz30_3 := blk_frozen BK104.out 3
           have hfz30_4 := blk_frozen BK104.out 4
           go_wp2_with (first | ((with_reducible refine gate_dst (N := 23) rfl ?_); refine Kd.R_lit k33 _ 33 ?hg (N := 23) ?hd (xs := ([] : List (S33))) (inner := []) (ok := fun _ => True) (okp := fun _ => True) ?hr ?hp (fun _ hk => hk) trivial (Below.refl _ _) (Nat.le_refl _) (by simp) ?_; (case hd => rfl); (case hg => rfl); (case hr => first | (go_simp; done) | (go_simp; rfl)); (case hp => exact (Reps.none _ _)); intro v107 w31 ho32 hb hg_ hnew_; clear hg_ hnew_; (first | rw [← Ny106.out] at ho32 | (simp only [Int.reduceToNat] at ho32; rw [← Ny106.out] at ho32)); have n0_ := Aside0.mk (Kd.R_lower (Kd.R_newB ho32 (g := gb104) (o := .cells #[.string a1_0, .string a1_1, .string a1_2, .int .i64 a1_3, .bool a1_4] 33 (0, 0)) zb4_1) (below_size zb5_1)); have n1_ := Aside0.mk (blk_below (g := gb104) (o := .cells #[.string a1_0, .string a1_1, .string a1_2, .int .i64 a1_3, .bool a1_4] 33 (0, 0)) zb4_1 hb); have n2_ := Aside0.mk (below_step zb5_1 hb); clear BK104; clear HB; have HO108 := n0_; have BK104 := n1_; have HB := n2_; clear n0_ n1_ n2_; clear hb ho32; have q33 : (x5_1 : Int) ≤ ((l0.length : Int) : Int) := of_decide_eq_true zb3_1; obtain ⟨i033, hi033, _, hsz33, _⟩ := info_parts info33; have hroom33 : l0.length ≤ c0 := HC0.out; have hC33 : Kd.C k33 _ (some ad105) l0.length l0 := HR0.out; have hcut33 := cut_to (P := Try.prog) 24 33 .i64 Try.underlying24 hi033 (some ad105) l0.length c0 x5_1 (of_decide_eq_true zb3_1) q33 hroom33; have hr33 := Kd.C_take (m := (x5_1 : Int).toNat) hC33 (by omega); have hy33 : y109.length = (x5_1 : Int).toNat := (by rw [Ny109.out, List.length_take]; omega); rw [← Ny109.out] at hr33; rw [← hy33] at hcut33; have HR112 := Aside0.mk hr33; have HC112 := Aside0.mk (show y109.length ≤ c0 from by omega); clear hr33 hC33 hroom33 hi033 hsz33; have KY33 := Aside0.mk hy33; clear hy33; replace q33 := eq_true q33) | ((with_reducible refine gate_builtin (b := .append) (xs := #[.tmp 23, .tmp 26]) rfl ?_); at_builtin; refine Kd.R_append_rows k33 (w0 := w) w.heap.size rfl (.tmp 23) (.tmp 26) 24 33 (.agg #[(.string ⟨#[]⟩), (.string ⟨#[]⟩), (.string ⟨#[]⟩), (.int .i64 0), (.bool false)]) 64 rfl Try.underlying24 info33 rfl (by decide) (by omega) v107 y106 y109 _ _ _ (fun k_ => k_ ≠ gb104) (fun _ => False) rfl rfl ?aO ?aR (fun _ _ h => h) (fun _ h => h.elim) ?aF ?aB ?aS ?aL ?_; (case aR => repeat (first | exact (Kd.C_below HR112.out HB.out) | exact (Kd.C_drewN (Kd.C_below HR112.out HB.out) _) | (with_reducible refine Kd.C_alloc ?_ _) | (with_reducible refine Kd.C_drewN ?_ _) | (with_reducible refine Kd.C_drew ?_))); (case aB => exact zb5_1); (case aF => exact (fun k_ hk => Kd.freshB (g := gb104) (o := .cells #[.string a1_0, .string a1_1, .string a1_2, .int .i64 a1_3, .bool a1_4] 33 (0, 0)) zb4_1 k_ hk)); (case aO => exact zb6_1); (case aS => exact (below_size zb5_1)); (case aL => have := LMc10.out; omega); intro v114 w34 ho hb hg hat; rw [← Ny113.out] at ho; have n0_ := Aside0.mk (blk_grown (g := gb104) (o := .cells #[.string a1_0, .string a1_1, .string a1_2, .int .i64 a1_3, .bool a1_4] 33 (0, 0)) zb4_1 hg (Kd.R_away HO108.out (fun _ hk => hk.2))); have n1_ := Aside0.mk (hb); have n2_ := Aside0.mk (ho); clear BK104; clear HB; clear HO108; have BK104 := n0_; have HB := n1_; have HO115 := n2_; clear n0_ n1_ n2_; clear ho hb hg hat; have hcz35_0 := bcq_1 BK104.out 0; have hcz35_1 := bcq_1 BK104.out 1; have hcz35_2 := bcq_1 BK104.out 2; have hcz35_3 := bcq_1 BK104.out 3; have hcz35_4 := bcq_1 BK104.out 4; have hfz35_0 := blk_frozen BK104.out 0; have hfz35_1 := blk_frozen BK104.out 1; have hfz35_2 := blk_frozen BK104.out 2; have hfz35_3 := blk_frozen BK104.out 3; have hfz35_4 := blk_frozen BK104.out 4) | ((with_reducible refine gate_builtin (b := .append) (xs := #[.tmp 28, .tmp 30]) rfl ?_); at_builtin; refine Kd.R_append k33 (w0 := w) w.heap.size rfl (.tmp 28) (.tmp 30) 24 33 (.agg #[(.string ⟨#[]⟩), (.string ⟨#[]⟩), (.string ⟨#[]⟩), (.int .i64 0), (.bool false)]) 64 rfl Try.underlying24 info33 rfl (by decide) (by omega) v114 y113 (⟨a1_0, a1_1, a1_2, a1_3, a1_4⟩ : S33) [.string a1_0, .string a1_1, .string a1_2, .int .i64 a1_3, .bool a1_4] (fun k_ => k_ ≠ gb104) (fun _ => False) rfl rfl ?aP (fun _ hk => hk.elim) ?aF ?aO ?aB ?aS ?aL ?_; (case aP => exact k33_mkM _ _ _ (⟨a1_0, a1_1, a1_2, a1_3, a1_4⟩ : S33)); (case aB => exact zb5_1); (case aF => exact (fun k_ hk => Kd.freshB (g := gb104) (o := .cells #[.string a1_0, .string a1_1, .string a1_2, .int .i64 a1_3, .bool a1_4] 33 (0, 0)) zb4_1 k_ hk)); (case aO => exact zb7_1); (case aS => exact (below_size zb5_1)); (case aL => have := LMc11.out; omega); intro v117 w36 ho hb hg hat; rw [← Ny116.out] at ho; have n0_ := Aside0.mk (blk_grown (g := gb104) (o := .cells #[.string a1_0, .string a1_1, .string a1_2, .int .i64 a1_3, .bool a1_4] 33 (0, 0)) zb4_1 hg (Kd.R_away HO115.out (fun _ hk => hk))); have n1_ := Aside0.mk (hb); have n2_ := Aside0.mk (ho); clear BK104; clear HB; clear HO115; have BK104 := n0_; have HB := n1_; have HO118 := n2_; clear n0_ n1_ n2_; clear ho hb hg hat; have p119 : 0 ≤ (x5_1 : Int) := of_decide_eq_true zb3_1; have q119 : x5_1 < (l0.length : Int) := of_decide_eq_true zb3_1; obtain ⟨ad119, e119, hx119_0, hx119_1, hx119_2, hx119_3, hx119_4⟩ := at_T33 HR0.out x5_1 p119 q119; obtain rfl : ad105 = ad119 := (by injection e119); replace hx119_0 := (HB.out.cell (World.block_lt_of_cell? w _ hx119_0)).trans hx119_0; replace hx119_1 := (HB.out.cell (World.block_lt_of_cell? w _ hx119_1)).trans hx119_1; replace hx119_2 := (HB.out.cell (World.block_lt_of_cell? w _ hx119_2)).trans hx119_2; replace hx119_3 := (HB.out.cell (World.block_lt_of_cell? w _ hx119_3)).trans hx119_3; replace hx119_4 := (HB.out.cell (World.block_lt_of_cell? w _ hx119_4)).trans hx119_4; replace p119 := eq_true p119; replace q119 := eq_true q119; have hcz37_0 := bcq_1 BK104.out 0; have hcz37_1 := bcq_1 BK104.out 1; have hcz37_2 := bcq_1 BK104.out 2; have hcz37_3 := bcq_1 BK104.out 3; have hcz37_4 := bcq_1 BK104.out 4; have hfz37_0 := blk_frozen BK104.out 0; have hfz37_1 := blk_frozen BK104.out 1; have hfz37_2 := blk_frozen BK104.out 2; have hfz37_3 := blk_frozen BK104.out 3; have hfz37_4 := blk_frozen BK104.out 4; have q38 : (x5_1 : Int) ≤ ((l0.length : Int) : Int) := of_decide_eq_true zb3_1; obtain ⟨i038, hi038, _, hsz38, _⟩ := info_parts info33; have hroom38 : l0.length ≤ c0 := HC0.out; have hC38 : Kd.C k33 _ (some ad105) l0.length l0 := HR0.out; have q038 : (0 : Int) ≤ (x5_1 : Int) := of_decide_eq_true zb3_1; have hcut38 := cut_from (P := Try.prog) 24 33 .i64 Try.underlying24 hi038 5 hsz38 (some ad105) l0.length c0 x5_1 q038 q38; have hr38 := Kd.C_drop (m := (x5_1 : Int).toNat) (c := c0) hC38 (by omega) hroom38; obtain ⟨A38, hA38⟩ : ∃ A1, A1 = (if c0 = (x5_1 : Int).toNat then (some ad105) else ((some ad105) : Option Addr).map (·.add ((x5_1 : Int).toNat * 5))) := ⟨_, rfl⟩; obtain ⟨c38, hc38⟩ : ∃ c1, c1 = c0 - (x5_1 : Int).toNat := ⟨_, rfl⟩; have hy38 : y127.length = l0.length - (x5_1 : Int).toNat := (by rw [Ny127.out, List.length_drop] <;> omega); rw [show (l0).drop (x5_1 : Int).toNat = y127 from Ny127.out.symm] at hr38; replace hr38 : Kd.C k33 _ A38 y127.length y127 := (by rw [hA38]; exact hr38); rw [← hy38, ← hA38, ← hc38] at hcut38; have HR130 := Aside0.mk hr38; have HC130 := Aside0.mk (show y127.length ≤ c38 from by rw [hy38, hc38]; exact Nat.sub_le_sub_right hroom38 _); clear hr38 hC38 hroom38 hi038 hsz38 hc38; have KY38 := Aside0.mk hy38; have KA38 := Aside0.mk hA38; clear hy38 hA38; replace q38 := eq_true q38) | ((with_reducible refine gate_builtin (b := .append) (xs := #[.tmp 48, .tmp 51]) rfl ?_); at_builtin; refine Kd.R_append_rows k33 (w0 := w) w.heap.size rfl (.tmp 48) (.tmp 51) 24 33 (.agg #[(.string ⟨#[]⟩), (.string ⟨#[]⟩), (.string ⟨#[]⟩), (.int .i64 0), (.bool false)]) 64 rfl Try.underlying24 info33 rfl (by decide) (by omega) v117 y116 y127 _ _ _ (fun k_ => k_ ≠ gb104) (fun _ => False) rfl rfl ?aO ?aR (fun _ _ h => h) (fun _ h => h.elim) ?aF ?aB ?aS ?aL ?_; (case aR => repeat (first | exact (Kd.C_below HR130.out HB.out) | exact (Kd.C_drewN (Kd.C_below HR130.out HB.out) _) | (with_reducible refine Kd.C_alloc ?_ _) | (with_reducible refine Kd.C_drewN ?_ _) | (with_reducible refine Kd.C_drew ?_))); (case aB => exact zb5_1); (case aF => exact (fun k_ hk => Kd.freshB (g := gb104) (o := .cells #[.string a1_0, .string a1_1, .string a1_2, .int .i64 a1_3, .bool a1_4] 33 (0, 0)) zb4_1 k_ hk)); (case aO => exact zb8_1); (case aS => exact (below_size zb5_1)); (case aL => have := LMc29.out; omega); intro v132 w39 ho hb hg hat; rw [← Ny131.out] at ho; have n0_ := Aside0.mk (blk_grown (g := gb104) (o := .cells #[.string a1_0, .string a1_1, .string a1_2, .int .i64 a1_3, .bool a1_4] 33 (0, 0)) zb4_1 hg (Kd.R_away HO118.out (fun _ hk => hk))); have n1_ := Aside0.mk (hb); have n2_ := Aside0.mk (ho); clear BK104; clear HB; clear HO118; have BK104 := n0_; have HB := n1_; have HO133 := n2_; clear n0_ n1_ n2_; clear ho hb hg hat))
           repeat (go_quiet (first | ((with_reducible refine gate_dst (N := 23) rfl ?_); refine Kd.R_lit k33 _ 33 ?hg (N := 23) ?hd (xs := ([] : List (S33))) (inner := []) (ok := fun _ => True) (okp := fun _ => True) ?hr ?hp (fun _ hk => hk) trivial (Below.refl _ _) (Nat.le_refl _) (by simp) ?_; (case hd => rfl); (case hg => rfl); (case hr => first | (go_simp; done) | (go_simp; rfl)); (case hp => exact (Reps.none _ _)); intro v107 w31 ho32 hb hg_ hnew_; clear hg_ hnew_; (first | rw [← Ny106.out] at ho32 | (simp only [Int.reduceToNat] at ho32; rw [← Ny106.out] at ho32)); have n0_ := Aside0.mk (Kd.R_lower (Kd.R_newB ho32 (g := gb104) (o := .cells #[.string a1_0, .string a1_1, .string a1_2, .int .i64 a1_3, .bool a1_4] 33 (0, 0)) zb4_1) (below_size zb5_1)); have n1_ := Aside0.mk (blk_below (g := gb104) (o := .cells #[.string a1_0, .string a1_1, .string a1_2, .int .i64 a1_3, .bool a1_4] 33 (0, 0)) zb4_1 hb); have n2_ := Aside0.mk (below_step zb5_1 hb); clear BK104; clear HB; have HO108 := n0_; have BK104 := n1_; have HB := n2_; clear n0_ n1_ n2_; clear hb ho32; have q33 : (x5_1 : Int) ≤ ((l0.length : Int) : Int) := of_decide_eq_true zb3_1; obtain ⟨i033, hi033, _, hsz33, _⟩ := info_parts info33; have hroom33 : l0.length ≤ c0 := HC0.out; have hC33 : Kd.C k33 _ (some ad105) l0.length l0 := HR0.out; have hcut33 := cut_to (P := Try.prog) 24 33 .i64 Try.underlying24 hi033 (some ad105) l0.length c0 x5_1 (of_decide_eq_true zb3_1) q33 hroom33; have hr33 := Kd.C_take (m := (x5_1 : Int).toNat) hC33 (by omega); have hy33 : y109.length = (x5_1 : Int).toNat := (by rw [Ny109.out, List.length_take]; omega); rw [← Ny109.out] at hr33; rw [← hy33] at hcut33; have HR112 := Aside0.mk hr33; have HC112 := Aside0.mk (show y109.length ≤ c0 from by omega); clear hr33 hC33 hroom33 hi033 hsz33; have KY33 := Aside0.mk hy33; clear hy33; replace q33 := eq_true q33) | ((with_reducible refine gate_builtin (b := .append) (xs := #[.tmp 23, .tmp 26]) rfl ?_); at_builtin; refine Kd.R_append_rows k33 (w0 := w) w.heap.size rfl (.tmp 23) (.tmp 26) 24 33 (.agg #[(.string ⟨#[]⟩), (.string ⟨#[]⟩), (.string ⟨#[]⟩), (.int .i64 0), (.bool false)]) 64 rfl Try.underlying24 info33 rfl (by decide) (by omega) v107 y106 y109 _ _ _ (fun k_ => k_ ≠ gb104) (fun _ => False) rfl rfl ?aO ?aR (fun _ _ h => h) (fun _ h => h.elim) ?aF ?aB ?aS ?aL ?_; (case aR => repeat (first | exact (Kd.C_below HR112.out HB.out) | exact (Kd.C_drewN (Kd.C_below HR112.out HB.out) _) | (with_reducible refine Kd.C_alloc ?_ _) | (with_reducible refine Kd.C_drewN ?_ _) | (with_reducible refine Kd.C_drew ?_))); (case aB => exact zb5_1); (case aF => exact (fun k_ hk => Kd.freshB (g := gb104) (o := .cells #[.string a1_0, .string a1_1, .string a1_2, .int .i64 a1_3, .bool a1_4] 33 (0, 0)) zb4_1 k_ hk)); (case aO => exact zb6_1); (case aS => exact (below_size zb5_1)); (case aL => have := LMc10.out; omega); intro v114 w34 ho hb hg hat; rw [← Ny113.out] at ho; have n0_ := Aside0.mk (blk_grown (g := gb104) (o := .cells #[.string a1_0, .string a1_1, .string a1_2, .int .i64 a1_3, .bool a1_4] 33 (0, 0)) zb4_1 hg (Kd.R_away HO108.out (fun _ hk => hk.2))); have n1_ := Aside0.mk (hb); have n2_ := Aside0.mk (ho); clear BK104; clear HB; clear HO108; have BK104 := n0_; have HB := n1_; have HO115 := n2_; clear n0_ n1_ n2_; clear ho hb hg hat; have hcz35_0 := bcq_1 BK104.out 0; have hcz35_1 := bcq_1 BK104.out 1; have hcz35_2 := bcq_1 BK104.out 2; have hcz35_3 := bcq_1 BK104.out 3; have hcz35_4 := bcq_1 BK104.out 4; have hfz35_0 := blk_frozen BK104.out 0; have hfz35_1 := blk_frozen BK104.out 1; have hfz35_2 := blk_frozen BK104.out 2; have hfz35_3 := blk_frozen BK104.out 3; have hfz35_4 := blk_frozen BK104.out 4) | ((with_reducible refine gate_builtin (b := .append) (xs := #[.tmp 28, .tmp 30]) rfl ?_); at_builtin; refine Kd.R_append k33 (w0 := w) w.heap.size rfl (.tmp 28) (.tmp 30) 24 33 (.agg #[(.string ⟨#[]⟩), (.string ⟨#[]⟩), (.string ⟨#[]⟩), (.int .i64 0), (.bool false)]) 64 rfl Try.underlying24 info33 rfl (by decide) (by omega) v114 y113 (⟨a1_0, a1_1, a1_2, a1_3, a1_4⟩ : S33) [.string a1_0, .string a1_1, .string a1_2, .int .i64 a1_3, .bool a1_4] (fun k_ => k_ ≠ gb104) (fun _ => False) rfl rfl ?aP (fun _ hk => hk.elim) ?aF ?aO ?aB ?aS ?aL ?_; (case aP => exact k33_mkM _ _ _ (⟨a1_0, a1_1, a1_2, a1_3, a1_4⟩ : S33)); (case aB => exact zb5_1); (case aF => exact (fun k_ hk => Kd.freshB (g := gb104) (o := .cells #[.string a1_0, .string a1_1, .string a1_2, .int .i64 a1_3, .bool a1_4] 33 (0, 0)) zb4_1 k_ hk)); (case aO => exact zb7_1); (case aS => exact (below_size zb5_1)); (case aL => have := LMc11.out; omega); intro v117 w36 ho hb hg hat; rw [← Ny116.out] at ho; have n0_ := Aside0.mk (blk_grown (g := gb104) (o := .cells #[.string a1_0, .string a1_1, .string a1_2, .int .i64 a1_3, .bool a1_4] 33 (0, 0)) zb4_1 hg (Kd.R_away HO115.out (fun _ hk => hk))); have n1_ := Aside0.mk (hb); have n2_ := Aside0.mk (ho); clear BK104; clear HB; clear HO115; have BK104 := n0_; have HB := n1_; have HO118 := n2_; clear n0_ n1_ n2_; clear ho hb hg hat; have p119 : 0 ≤ (x5_1 : Int) := of_decide_eq_true zb3_1; have q119 : x5_1 < (l0.length : Int) := of_decide_eq_true zb3_1; obtain ⟨ad119, e119, hx119_0, hx119_1, hx119_2, hx119_3, hx119_4⟩ := at_T33 HR0.out x5_1 p119 q119; obtain rfl : ad105 = ad119 := (by injection e119); replace hx119_0 := (HB.out.cell (World.block_lt_of_cell? w _ hx119_0)).trans hx119_0; replace hx119_1 := (HB.out.cell (World.block_lt_of_cell? w _ hx119_1)).trans hx119_1; replace hx119_2 := (HB.out.cell (World.block_lt_of_cell? w _ hx119_2)).trans hx119_2; replace hx119_3 := (HB.out.cell (World.block_lt_of_cell? w _ hx119_3)).trans hx119_3; replace hx119_4 := (HB.out.cell (World.block_lt_of_cell? w _ hx119_4)).trans hx119_4; replace p119 := eq_true p119; replace q119 := eq_true q119; have hcz37_0 := bcq_1 BK104.out 0; have hcz37_1 := bcq_1 BK104.out 1; have hcz37_2 := bcq_1 BK104.out 2; have hcz37_3 := bcq_1 BK104.out 3; have hcz37_4 := bcq_1 BK104.out 4; have hfz37_0 := blk_frozen BK104.out 0; have hfz37_1 := blk_frozen BK104.out 1; have hfz37_2 := blk_frozen BK104.out 2; have hfz37_3 := blk_frozen BK104.out 3; have hfz37_4 := blk_frozen BK104.out 4; have q38 : (x5_1 : Int) ≤ ((l0.length : Int) : Int) := of_decide_eq_true zb3_1; obtain ⟨i038, hi038, _, hsz38, _⟩ := info_parts info33; have hroom38 : l0.length ≤ c0 := HC0.out; have hC38 : Kd.C k33 _ (some ad105) l0.length l0 := HR0.out; have q038 : (0 : Int) ≤ (x5_1 : Int) := of_decide_eq_true zb3_1; have hcut38 := cut_from (P := Try.prog) 24 33 .i64 Try.underlying24 hi038 5 hsz38 (some ad105) l0.length c0 x5_1 q038 q38; have hr38 := Kd.C_drop (m := (x5_1 : Int).toNat) (c := c0) hC38 (by omega) hroom38; obtain ⟨A38, hA38⟩ : ∃ A1, A1 = (if c0 = (x5_1 : Int).toNat then (some ad105) else ((some ad105) : Option Addr).map (·.add ((x5_1 : Int).toNat * 5))) := ⟨_, rfl⟩; obtain ⟨c38, hc38⟩ : ∃ c1, c1 = c0 - (x5_1 : Int).toNat := ⟨_, rfl⟩; have hy38 : y127.length = l0.length - (x5_1 : Int).toNat := (by rw [Ny127.out, List.length_drop] <;> omega); rw [show (l0).drop (x5_1 : Int).toNat = y127 from Ny127.out.symm] at hr38; replace hr38 : Kd.C k33 _ A38 y127.length y127 := (by rw [hA38]; exact hr38); rw [← hy38, ← hA38, ← hc38] at hcut38; have HR130 := Aside0.mk hr38; have HC130 := Aside0.mk (show y127.length ≤ c38 from by rw [hy38, hc38]; exact Nat.sub_le_sub_right hroom38 _); clear hr38 hC38 hroom38 hi038 hsz38 hc38; have KY38 := Aside0.mk hy38; have KA38 := Aside0.mk hA38; clear hy38 hA38; replace q38 := eq_true q38) | ((with_reducible refine gate_builtin (b := .append) (xs := #[.tmp 48, .tmp 51]) rfl ?_); at_builtin; refine Kd.R_append_rows k33 (w0 := w) w.heap.size rfl (.tmp 48) (.tmp 51) 24 33 (.agg #[(.string ⟨#[]⟩), (.string ⟨#[]⟩), (.string ⟨#[]⟩), (.int .i64 0), (.bool false)]) 64 rfl Try.underlying24 info33 rfl (by decide) (by omega) v117 y116 y127 _ _ _ (fun k_ => k_ ≠ gb104) (fun _ => False) rfl rfl ?aO ?aR (fun _ _ h => h) (fun _ h => h.elim) ?aF ?aB ?aS ?aL ?_; (case aR => repeat (first | exact (Kd.C_below HR130.out HB.out) | exact (Kd.C_drewN (Kd.C_below HR130.out HB.out) _) | (with_reducible refine Kd.C_alloc ?_ _) | (with_reducible refine Kd.C_drewN ?_ _) | (with_reducible refine Kd.C_drew ?_))); (case aB => exact zb5_1); (case aF => exact (fun k_ hk => Kd.freshB (g := gb104) (o := .cells #[.string a1_0, .string a1_1, .string a1_2, .int .i64 a1_3, .bool a1_4] 33 (0, 0)) zb4_1 k_ hk)); (case aO => exact zb8_1); (case aS => exact (below_size zb5_1)); (case aL => have := LMc29.out; omega); intro v132 w39 ho hb hg hat; rw [← Ny131.out] at ho; have n0_ := Aside0.mk (blk_grown (g := gb104) (o := .cells #[.string a1_0, .string a1_1, .string a1_2, .int .i64 a1_3, .bool a1_4] 33 (0, 0)) zb4_1 hg (Kd.R_away HO118.out (fun _ hk => hk))); have n1_ := Aside0.mk (hb); have n2_ := Aside0.mk (ho); clear BK104; clear HB; clear HO118; have BK104 := n0_; have HB := n1_; have HO133 := n2_; clear n0_ n1_ n2_; clear ho hb hg hat)); try go_wp2_with (first | ((with_reducible refine gate_dst (N := 23) rfl ?_); refine Kd.R_lit k33 _ 33 ?hg (N := 23) ?hd (xs := ([] : List (S33))) (inner := []) (ok := fun _ => True) (okp := fun _ => True) ?hr ?hp (fun _ hk => hk) trivial (Below.refl _ _) (Nat.le_refl _) (by simp) ?_; (case hd => rfl); (case hg => rfl); (case hr => first | (go_simp; done) | (go_simp; rfl)); (case hp => exact (Reps.none _ _)); intro v107 w31 ho32 hb hg_ hnew_; clear hg_ hnew_; (first | rw [← Ny106.out] at ho32 | (simp only [Int.reduceToNat] at ho32; rw [← Ny106.out] at ho32)); have n0_ := Aside0.mk (Kd.R_lower (Kd.R_newB ho32 (g := gb104) (o := .cells #[.string a1_0, .string a1_1, .string a1_2, .int .i64 a1_3, .bool a1_4] 33 (0, 0)) zb4_1) (below_size zb5_1)); have n1_ := Aside0.mk (blk_below (g := gb104) (o := .cells #[.string a1_0, .string a1_1, .string a1_2, .int .i64 a1_3, .bool a1_4] 33 (0, 0)) zb4_1 hb); have n2_ := Aside0.mk (below_step zb5_1 hb); clear BK104; clear HB; have HO108 := n0_; have BK104 := n1_; have HB := n2_; clear n0_ n1_ n2_; clear hb ho32; have q33 : (x5_1 : Int) ≤ ((l0.length : Int) : Int) := of_decide_eq_true zb3_1; obtain ⟨i033, hi033, _, hsz33, _⟩ := info_parts info33; have hroom33 : l0.length ≤ c0 := HC0.out; have hC33 : Kd.C k33 _ (some ad105) l0.length l0 := HR0.out; have hcut33 := cut_to (P := Try.prog) 24 33 .i64 Try.underlying24 hi033 (some ad105) l0.length c0 x5_1 (of_decide_eq_true zb3_1) q33 hroom33; have hr33 := Kd.C_take (m := (x5_1 : Int).toNat) hC33 (by omega); have hy33 : y109.length = (x5_1 : Int).toNat := (by rw [Ny109.out, List.length_take]; omega); rw [← Ny109.out] at hr33; rw [← hy33] at hcut33; have HR112 := Aside0.mk hr33; have HC112 := Aside0.mk (show y109.length ≤ c0 from by omega); clear hr33 hC33 hroom33 hi033 hsz33; have KY33 := Aside0.mk hy33; clear hy33; replace q33 := eq_true q33) | ((with_reducible refine gate_builtin (b := .append) (xs := #[.tmp 23, .tmp 26]) rfl ?_); at_builtin; refine Kd.R_append_rows k33 (w0 := w) w.heap.size rfl (.tmp 23) (.tmp 26) 24 33 (.agg #[(.string ⟨#[]⟩), (.string ⟨#[]⟩), (.string ⟨#[]⟩), (.int .i64 0), (.bool false)]) 64 rfl Try.underlying24 info33 rfl (by decide) (by omega) v107 y106 y109 _ _ _ (fun k_ => k_ ≠ gb104) (fun _ => False) rfl rfl ?aO ?aR (fun _ _ h => h) (fun _ h => h.elim) ?aF ?aB ?aS ?aL ?_; (case aR => repeat (first | exact (Kd.C_below HR112.out HB.out) | exact (Kd.C_drewN (Kd.C_below HR112.out HB.out) _) | (with_reducible refine Kd.C_alloc ?_ _) | (with_reducible refine Kd.C_drewN ?_ _) | (with_reducible refine Kd.C_drew ?_))); (case aB => exact zb5_1); (case aF => exact (fun k_ hk => Kd.freshB (g := gb104) (o := .cells #[.string a1_0, .string a1_1, .string a1_2, .int .i64 a1_3, .bool a1_4] 33 (0, 0)) zb4_1 k_ hk)); (case aO => exact zb6_1); (case aS => exact (below_size zb5_1)); (case aL => have := LMc10.out; omega); intro v114 w34 ho hb hg hat; rw [← Ny113.out] at ho; have n0_ := Aside0.mk (blk_grown (g := gb104) (o := .cells #[.string a1_0, .string a1_1, .string a1_2, .int .i64 a1_3, .bool a1_4] 33 (0, 0)) zb4_1 hg (Kd.R_away HO108.out (fun _ hk => hk.2))); have n1_ := Aside0.mk (hb); have n2_ := Aside0.mk (ho); clear BK104; clear HB; clear HO108; have BK104 := n0_; have HB := n1_; have HO115 := n2_; clear n0_ n1_ n2_; clear ho hb hg hat; have hcz35_0 := bcq_1 BK104.out 0; have hcz35_1 := bcq_1 BK104.out 1; have hcz35_2 := bcq_1 BK104.out 2; have hcz35_3 := bcq_1 BK104.out 3; have hcz35_4 := bcq_1 BK104.out 4; have hfz35_0 := blk_frozen BK104.out 0; have hfz35_1 := blk_frozen BK104.out 1; have hfz35_2 := blk_frozen BK104.out 2; have hfz35_3 := blk_frozen BK104.out 3; have hfz35_4 := blk_frozen BK104.out 4) | ((with_reducible refine gate_builtin (b := .append) (xs := #[.tmp 28, .tmp 30]) rfl ?_); at_builtin; refine Kd.R_append k33 (w0 := w) w.heap.size rfl (.tmp 28) (.tmp 30) 24 33 (.agg #[(.string ⟨#[]⟩), (.string ⟨#[]⟩), (.string ⟨#[]⟩), (.int .i64 0), (.bool false)]) 64 rfl Try.underlying24 info33 rfl (by decide) (by omega) v114 y113 (⟨a1_0, a1_1, a1_2, a1_3, a1_4⟩ : S33) [.string a1_0, .string a1_1, .string a1_2, .int .i64 a1_3, .bool a1_4] (fun k_ => k_ ≠ gb104) (fun _ => False) rfl rfl ?aP (fun _ hk => hk.elim) ?aF ?aO ?aB ?aS ?aL ?_; (case aP => exact k33_mkM _ _ _ (⟨a1_0, a1_1, a1_2, a1_3, a1_4⟩ : S33)); (case aB => exact zb5_1); (case aF => exact (fun k_ hk => Kd.freshB (g := gb104) (o := .cells #[.string a1_0, .string a1_1, .string a1_2, .int .i64 a1_3, .bool a1_4] 33 (0, 0)) zb4_1 k_ hk)); (case aO => exact zb7_1); (case aS => exact (below_size zb5_1)); (case aL => have := LMc11.out; omega); intro v117 w36 ho hb hg hat; rw [← Ny116.out] at ho; have n0_ := Aside0.mk (blk_grown (g := gb104) (o := .cells #[.string a1_0, .string a1_1, .string a1_2, .int .i64 a1_3, .bool a1_4] 33 (0, 0)) zb4_1 hg (Kd.R_away HO115.out (fun _ hk => hk))); have n1_ := Aside0.mk (hb); have n2_ := Aside0.mk (ho); clear BK104; clear HB; clear HO115; have BK104 := n0_; have HB := n1_; have HO118 := n2_; clear n0_ n1_ n2_; clear ho hb hg hat; have p119 : 0 ≤ (x5_1 : Int) := of_decide_eq_true zb3_1; have q119 : x5_1 < (l0.length : Int) := of_decide_eq_true zb3_1; obtain ⟨ad119, e119, hx119_0, hx119_1, hx119_2, hx119_3, hx119_4⟩ := at_T33 HR0.out x5_1 p119 q119; obtain rfl : ad105 = ad119 := (by injection e119); replace hx119_0 := (HB.out.cell (World.block_lt_of_cell? w _ hx119_0)).trans hx119_0; replace hx119_1 := (HB.out.cell (World.block_lt_of_cell? w _ hx119_1)).trans hx119_1; replace hx119_2 := (HB.out.cell (World.block_lt_of_cell? w _ hx119_2)).trans hx119_2; replace hx119_3 := (HB.out.cell (World.block_lt_of_cell? w _ hx119_3)).trans hx119_3; replace hx119_4 := (HB.out.cell (World.block_lt_of_cell? w _ hx119_4)).trans hx119_4; replace p119 := eq_true p119; replace q119 := eq_true q119; have hcz37_0 := bcq_1 BK104.out 0; have hcz37_1 := bcq_1 BK104.out 1; have hcz37_2 := bcq_1 BK104.out 2; have hcz37_3 := bcq_1 BK104.out 3; have hcz37_4 := bcq_1 BK104.out 4; have hfz37_0 := blk_frozen BK104.out 0; have hfz37_1 := blk_frozen BK104.out 1; have hfz37_2 := blk_frozen BK104.out 2; have hfz37_3 := blk_frozen BK104.out 3; have hfz37_4 := blk_frozen BK104.out 4; have q38 : (x5_1 : Int) ≤ ((l0.length : Int) : Int) := of_decide_eq_true zb3_1; obtain ⟨i038, hi038, _, hsz38, _⟩ := info_parts info33; have hroom38 : l0.length ≤ c0 := HC0.out; have hC38 : Kd.C k33 _ (some ad105) l0.length l0 := HR0.out; have q038 : (0 : Int) ≤ (x5_1 : Int) := of_decide_eq_true zb3_1; have hcut38 := cut_from (P := Try.prog) 24 33 .i64 Try.underlying24 hi038 5 hsz38 (some ad105) l0.length c0 x5_1 q038 q38; have hr38 := Kd.C_drop (m := (x5_1 : Int).toNat) (c := c0) hC38 (by omega) hroom38; obtain ⟨A38, hA38⟩ : ∃ A1, A1 = (if c0 = (x5_1 : Int).toNat then (some ad105) else ((some ad105) : Option Addr).map (·.add ((x5_1 : Int).toNat * 5))) := ⟨_, rfl⟩; obtain ⟨c38, hc38⟩ : ∃ c1, c1 = c0 - (x5_1 : Int).toNat := ⟨_, rfl⟩; have hy38 : y127.length = l0.length - (x5_1 : Int).toNat := (by rw [Ny127.out, List.length_drop] <;> omega); rw [show (l0).drop (x5_1 : Int).toNat = y127 from Ny127.out.symm] at hr38; replace hr38 : Kd.C k33 _ A38 y127.length y127 := (by rw [hA38]; exact hr38); rw [← hy38, ← hA38, ← hc38] at hcut38; have HR130 := Aside0.mk hr38; have HC130 := Aside0.mk (show y127.length ≤ c38 from by rw [hy38, hc38]; exact Nat.sub_le_sub_right hroom38 _); clear hr38 hC38 hroom38 hi038 hsz38 hc38; have KY38 := Aside0.mk hy38; have KA38 := Aside0.mk hA38; clear hy38 hA38; replace q38 := eq_true q38) | ((with_reducible refine gate_builtin (b := .append) (xs := #[.tmp 48, .tmp 51]) rfl ?_); at_builtin; refine Kd.R_append_rows k33 (w0 := w) w.heap.size rfl (.tmp 48) (.tmp 51) 24 33 (.agg #[(.string ⟨#[]⟩), (.string ⟨#[]⟩), (.string ⟨#[]⟩), (.int .i64 0), (.bool false)]) 64 rfl Try.underlying24 info33 rfl (by decide) (by omega) v117 y116 y127 _ _ _ (fun k_ => k_ ≠ gb104) (fun _ => False) rfl rfl ?aO ?aR (fun _ _ h => h) (fun _ h => h.elim) ?aF ?aB ?aS ?aL ?_; (case aR => repeat (first | exact (Kd.C_below HR130.out HB.out) | exact (Kd.C_drewN (Kd.C_below HR130.out HB.out) _) | (with_reducible refine Kd.C_alloc ?_ _) | (with_reducible refine Kd.C_drewN ?_ _) | (with_reducible refine Kd.C_drew ?_))); (case aB => exact zb5_1); (case aF => exact (fun k_ hk => Kd.freshB (g := gb104) (o := .cells #[.string a1_0, .string a1_1, .string a1_2, .int .i64 a1_3, .bool a1_4] 33 (0, 0)) zb4_1 k_ hk)); (case aO => exact zb8_1); (case aS => exact (below_size zb5_1)); (case aL => have := LMc29.out; omega); intro v132 w39 ho hb hg hat; rw [← Ny131.out] at ho; have n0_ := Aside0.mk (blk_grown (g := gb104) (o := .cells #[.string a1_0, .string a1_1, .string a1_2, .int .i64 a1_3, .bool a1_4] 33 (0, 0)) zb4_1 hg (Kd.R_away HO118.out (fun _ hk => hk))); have n1_ := Aside0.mk (hb); have n2_ := Aside0.mk (ho); clear BK104; clear HB; clear HO118; have BK104 := n0_; have HB := n1_; have HO133 := n2_; clear n0_ n1_ n2_; clear ho hb hg hat)))
           go_ret
           exact ⟨_, by first | rfl | (simp [errW_none, errW_some] <;> rfl) | (simp [*, errW_none, errW_some] <;> rfl), by (with_reducible repeat (first | apply Kd.R_alloc | apply Kd.R_drewN | apply Kd.R_drew)); exact Kd.R_mono HO133.out (fun _ hk => trivial), by repeat (first | (with_reducible first | exact HB.out | apply below_alloc | apply pw_below_drewN | apply below_drew1 | refine below_set ?_ GE104.out) | exact HB.out)⟩
          ·
           rw [if_neg c29] at H
           exact absurd H (by simp)
        ·
         rw [if_neg c11] at H
         exact absurd H (by simp)
       ·
        rw [if_neg c10] at H
        exact absurd H (by simp)
      ·
       rw [if_neg c9] at H
       exact absurd H (by simp)
    ·
     rw [if_neg c5] at H
     exact absurd H (by simp)
   ·
    rw [if_neg c4] at H
    have c4b0 : decide (x5_1 < (l0.length : Int)) = false := decide_eq_false c4
    clear c4
    obtain ⟨y134, hy134⟩ : ∃ y_ : List (S33), y_ = (([] : List (S33))) := ⟨_, rfl⟩
    replace H : (if 0 ≤ x5_1 then (if x5_1 ≤ (l0.length : Int) then ((some (l0.take (x5_1 : Int).toNat : List (S33))).bind fun y137 => (if y134.length + y137.length < 2199023255552 then ((some (y134 ++ y137 : List (S33))).bind fun y141 => (if y141.length < 2199023255552 then ((some (y141 ++ [(⟨a1_0, a1_1, a1_2, a1_3, a1_4⟩ : S33)] : List (S33))).bind fun y144 => ((some (l0.drop (x5_1 : Int).toNat : List (S33))).bind fun y147 => (if y144.length + y147.length < 2199023255552 then (some (y144 ++ y147)) else (none)))) else (none))) else (none))) else (none)) else (none)) = some r := by first | (rw [hy134]; with_reducible exact H) | (have H2_ := (Option.bind_some _ _).symm.trans H; rw [hy134]; with_reducible exact H2_) | (have H2_ := (Option.bind_some _ _).symm.trans H; with_reducible exact H2_) | with_reducible exact H | (rw [hy134]; exact H) | exact H
    have Ny134 := Aside0.mk hy134
    clear hy134
    by_cases c40 : 0 ≤ x5_1
    ·
     rw [if_pos c40] at H
     have c40b0 := eq_true c40
     have c40b1 : decide (0 ≤ x5_1) = true := decide_eq_true c40
     clear c40
     by_cases c41 : x5_1 ≤ (l0.length : Int)
     ·
      rw [if_pos c41] at H
      have c41b0 := eq_true c41
      have c41b1 : decide (x5_1 ≤ (l0.length : Int)) = true := decide_eq_true c41
      clear c41
      obtain ⟨y137, hy137⟩ : ∃ y_ : List (S33), y_ = (l0.take (x5_1 : Int).toNat) := ⟨_, rfl⟩
      replace H : (if y134.length + y137.length < 2199023255552 then ((some (y134 ++ y137 : List (S33))).bind fun y141 => (if y141.length < 2199023255552 then ((some (y141 ++ [(⟨a1_0, a1_1, a1_2, a1_3, a1_4⟩ : S33)] : List (S33))).bind fun y144 => ((some (l0.drop (x5_1 : Int).toNat : List (S33))).bind fun y147 => (if y144.length + y147.length < 2199023255552 then (some (y144 ++ y147)) else (none)))) else (none))) else (none)) = some r := by first | (rw [hy137]; with_reducible exact H) | (have H2_ := (Option.bind_some _ _).symm.trans H; rw [hy137]; with_reducible exact H2_) | (have H2_ := (Option.bind_some _ _).symm.trans H; with_reducible exact H2_) | with_reducible exact H | (rw [hy137]; exact H) | exact H
      have Ny137 := Aside0.mk hy137
      clear hy137
      by_cases c42 : y134.length + y137.length < 2199023255552
      ·
       rw [if_pos c42] at H
       have LMc42 := Aside0.mk c42
       clear c42
       obtain ⟨y141, hy141⟩ : ∃ y_ : List (S33), y_ = (y134 ++ y137) := ⟨_, rfl⟩
       replace H : (if y141.length < 2199023255552 then ((some (y141 ++ [(⟨a1_0, a1_1, a1_2, a1_3, a1_4⟩ : S33)] : List (S33))).bind fun y144 => ((some (l0.drop (x5_1 : Int).toNat : List (S33))).bind fun y147 => (if y144.length + y147.length < 2199023255552 then (some (y144 ++ y147)) else (none)))) else (none)) = some r := by first | (rw [hy141]; with_reducible exact H) | (have H2_ := (Option.bind_some _ _).symm.trans H; rw [hy141]; with_reducible exact H2_) | (have H2_ := (Option.bind_some _ _).symm.trans H; with_reducible exact H2_) | with_reducible exact H | (rw [hy141]; exact H) | exact H
       have Ny141 := Aside0.mk hy141
       clear hy141
       by_cases c43 : y141.length < 2199023255552
       ·
        rw [if_pos c43] at H
        have LMc43 := Aside0.mk c43
        clear c43
        obtain ⟨y144, hy144⟩ : ∃ y_ : List (S33), y_ = (y141 ++ [(⟨a1_0, a1_1, a1_2, a1_3, a1_4⟩ : S33)]) := ⟨_, rfl⟩
        replace H : ((some (l0.drop (x5_1 : Int).toNat : List (S33))).bind fun y147 => (if y144.length + y147.length < 2199023255552 then (some (y144 ++ y147)) else (none))) = some r := by first | (rw [hy144]; with_reducible exact H) | (have H2_ := (Option.bind_some _ _).symm.trans H; rw [hy144]; with_reducible exact H2_) | (have H2_ := (Option.bind_some _ _).symm.trans H; with_reducible exact H2_) | with_reducible exact H | (rw [hy144]; exact H) | exact H
        have Ny144 := Aside0.mk hy144
        clear hy144
        have c44b0 := eq_true (of_decide_eq_true zb3_1 : 0 ≤ x5_1)
        have c45b0 := eq_true (of_decide_eq_true zb3_1 : x5_1 ≤ (l0.length : Int))
        obtain ⟨y147, hy147⟩ : ∃ y_ : List (S33), y_ = (l0.drop (x5_1 : Int).toNat) := ⟨_, rfl⟩
        replace H : (if y144.length + y147.length < 2199023255552 then (some (y144 ++ y147)) else (none)) = some r := by first | (rw [hy147]; with_reducible exact H) | (have H2_ := (Option.bind_some _ _).symm.trans H; rw [hy147]; with_reducible exact H2_) | (have H2_ := (Option.bind_some _ _).symm.trans H; with_reducible exact H2_) | with_reducible exact H | (rw [hy147]; exact H) | exact H
        have Ny147 := Aside0.mk hy147
        clear hy147
        by_cases c46 : y144.length + y147.length < 2199023255552
        ·
         rw [if_pos c46] at H
         have LMc46 := Aside0.mk c46
         clear c46
         obtain ⟨y151, hy151⟩ : ∃ y_ : List (S33), y_ = (y144 ++ y147) := ⟨_, rfl⟩
         replace H : (some y151) = some r := by first | (rw [hy151]; with_reducible exact H) | (have H2_ := (Option.bind_some _ _).symm.trans H; rw [hy151]; with_reducible exact H2_) | (have H2_ := (Option.bind_some _ _).symm.trans H; with_reducible exact H2_) | with_reducible exact H | (rw [hy151]; exact H) | exact H
         have Ny151 := Aside0.mk hy151
         clear hy151
         obtain rfl := Option.some.inj H
         go_wp2_with (first | ((with_reducible refine gate_dst (N := 23) rfl ?_); refine Kd.R_lit k33 _ 33 ?hg (N := 23) ?hd (xs := ([] : List (S33))) (inner := []) (ok := fun _ => True) (okp := fun _ => True) ?hr ?hp (fun _ hk => hk) trivial (Below.refl _ _) (Nat.le_refl _) (by simp) ?_; (case hd => rfl); (case hg => rfl); (case hr => first | (go_simp; done) | (go_simp; rfl)); (case hp => exact (Reps.none _ _)); intro v135 w47 ho48 hb hg_ hnew_; clear hg_ hnew_; (first | rw [← Ny134.out] at ho48 | (simp only [Int.reduceToNat] at ho48; rw [← Ny134.out] at ho48)); have n0_ := Aside0.mk (Kd.R_lower (Kd.R_newB ho48 (g := gb104) (o := .cells #[.string a1_0, .string a1_1, .string a1_2, .int .i64 a1_3, .bool a1_4] 33 (0, 0)) zb4_1) (below_size zb5_1)); have n1_ := Aside0.mk (blk_below (g := gb104) (o := .cells #[.string a1_0, .string a1_1, .string a1_2, .int .i64 a1_3, .bool a1_4] 33 (0, 0)) zb4_1 hb); have n2_ := Aside0.mk (below_step zb5_1 hb); clear BK104; clear HB; have HO136 := n0_; have BK104 := n1_; have HB := n2_; clear n0_ n1_ n2_; clear hb ho48; have q49 : (x5_1 : Int) ≤ ((l0.length : Int) : Int) := of_decide_eq_true zb3_1; obtain ⟨i049, hi049, _, hsz49, _⟩ := info_parts info33; have hroom49 : l0.length ≤ c0 := HC0.out; have hC49 : Kd.C k33 _ A0 l0.length l0 := HR0.out; have hcut49 := cut_to (P := Try.prog) 24 33 .i64 Try.underlying24 hi049 A0 l0.length c0 x5_1 (of_decide_eq_true zb3_1) q49 hroom49; have hr49 := Kd.C_take (m := (x5_1 : Int).toNat) hC49 (by omega); have hy49 : y137.length = (x5_1 : Int).toNat := (by rw [Ny137.out, List.length_take]; omega); rw [← Ny137.out] at hr49; rw [← hy49] at hcut49; have HR140 := Aside0.mk hr49; have HC140 := Aside0.mk (show y137.length ≤ c0 from by omega); clear hr49 hC49 hroom49 hi049 hsz49; have KY49 := Aside0.mk hy49; clear hy49; replace q49 := eq_true q49) | ((with_reducible refine gate_builtin (b := .append) (xs := #[.tmp 23, .tmp 26]) rfl ?_); at_builtin; refine Kd.R_append_rows k33 (w0 := w) w.heap.size rfl (.tmp 23) (.tmp 26) 24 33 (.agg #[(.string ⟨#[]⟩), (.string ⟨#[]⟩), (.string ⟨#[]⟩), (.int .i64 0), (.bool false)]) 64 rfl Try.underlying24 info33 rfl (by decide) (by omega) v135 y134 y137 _ _ _ (fun k_ => k_ ≠ gb104) (fun _ => False) rfl rfl ?aO ?aR (fun _ _ h => h) (fun _ h => h.elim) ?aF ?aB ?aS ?aL ?_; (case aR => repeat (first | exact (Kd.C_below HR140.out HB.out) | exact (Kd.C_drewN (Kd.C_below HR140.out HB.out) _) | (with_reducible refine Kd.C_alloc ?_ _) | (with_reducible refine Kd.C_drewN ?_ _) | (with_reducible refine Kd.C_drew ?_))); (case aB => exact zb5_1); (case aF => exact (fun k_ hk => Kd.freshB (g := gb104) (o := .cells #[.string a1_0, .string a1_1, .string a1_2, .int .i64 a1_3, .bool a1_4] 33 (0, 0)) zb4_1 k_ hk)); (case aO => exact zb9_1); (case aS => exact (below_size zb5_1)); (case aL => have := LMc42.out; omega); intro v142 w50 ho hb hg hat; rw [← Ny141.out] at ho; have n0_ := Aside0.mk (blk_grown (g := gb104) (o := .cells #[.string a1_0, .string a1_1, .string a1_2, .int .i64 a1_3, .bool a1_4] 33 (0, 0)) zb4_1 hg (Kd.R_away HO136.out (fun _ hk => hk.2))); have n1_ := Aside0.mk (hb); have n2_ := Aside0.mk (ho); clear BK104; clear HB; clear HO136; have BK104 := n0_; have HB := n1_; have HO143 := n2_; clear n0_ n1_ n2_; clear ho hb hg hat; have hcz51_0 := bcq_1 BK104.out 0; have hcz51_1 := bcq_1 BK104.out 1; have hcz51_2 := bcq_1 BK104.out 2; have hcz51_3 := bcq_1 BK104.out 3; have hcz51_4 := bcq_1 BK104.out 4; have hfz51_0 := blk_frozen BK104.out 0; have hfz51_1 := blk_frozen BK104.out 1; have hfz51_2 := blk_frozen BK104.out 2; have hfz51_3 := blk_frozen BK104.out 3; have hfz51_4 := blk_frozen BK104.out 4) | ((with_reducible refine gate_builtin (b := .append) (xs := #[.tmp 28, .tmp 30]) rfl ?_); at_builtin; refine Kd.R_append k33 (w0 := w) w.heap.size rfl (.tmp 28) (.tmp 30) 24 33 (.agg #[(.string ⟨#[]⟩), (.string ⟨#[]⟩), (.string ⟨#[]⟩), (.int .i64 0), (.bool false)]) 64 rfl Try.underlying24 info33 rfl (by decide) (by omega) v142 y141 (⟨a1_0, a1_1, a1_2, a1_3, a1_4⟩ : S33) [.string a1_0, .string a1_1, .string a1_2, .int .i64 a1_3, .bool a1_4] (fun k_ => k_ ≠ gb104) (fun _ => False) rfl rfl ?aP (fun _ hk => hk.elim) ?aF ?aO ?aB ?aS ?aL ?_; (case aP => exact k33_mkM _ _ _ (⟨a1_0, a1_1, a1_2, a1_3, a1_4⟩ : S33)); (case aB => exact zb5_1); (case aF => exact (fun k_ hk => Kd.freshB (g := gb104) (o := .cells #[.string a1_0, .string a1_1, .string a1_2, .int .i64 a1_3, .bool a1_4] 33 (0, 0)) zb4_1 k_ hk)); (case aO => exact zb10_1); (case aS => exact (below_size zb5_1)); (case aL => have := LMc43.out; omega); intro v145 w52 ho hb hg hat; rw [← Ny144.out] at ho; have n0_ := Aside0.mk (blk_grown (g := gb104) (o := .cells #[.string a1_0, .string a1_1, .string a1_2, .int .i64 a1_3, .bool a1_4] 33 (0, 0)) zb4_1 hg (Kd.R_away HO143.out (fun _ hk => hk))); have n1_ := Aside0.mk (hb); have n2_ := Aside0.mk (ho); clear BK104; clear HB; clear HO143; have BK104 := n0_; have HB := n1_; have HO146 := n2_; clear n0_ n1_ n2_; clear ho hb hg hat; have q53 : (x5_1 : Int) ≤ ((l0.length : Int) : Int) := of_decide_eq_true zb3_1; obtain ⟨i053, hi053, _, hsz53, _⟩ := info_parts info33; have hroom53 : l0.length ≤ c0 := HC0.out; have hC53 : Kd.C k33 _ A0 l0.length l0 := HR0.out; have q053 : (0 : Int) ≤ (x5_1 : Int) := of_decide_eq_true zb3_1; have hcut53 := cut_from (P := Try.prog) 24 33 .i64 Try.underlying24 hi053 5 hsz53 A0 l0.length c0 x5_1 q053 q53; have hr53 := Kd.C_drop (m := (x5_1 : Int).toNat) (c := c0) hC53 (by omega) hroom53; obtain ⟨A53, hA53⟩ : ∃ A1, A1 = (if c0 = (x5_1 : Int).toNat then A0 else (A0 : Option Addr).map (·.add ((x5_1 : Int).toNat * 5))) := ⟨_, rfl⟩; obtain ⟨c53, hc53⟩ : ∃ c1, c1 = c0 - (x5_1 : Int).toNat := ⟨_, rfl⟩; have hy53 : y147.length = l0.length - (x5_1 : Int).toNat := (by rw [Ny147.out, List.length_drop] <;> omega); rw [show (l0).drop (x5_1 : Int).toNat = y147 from Ny147.out.symm] at hr53; replace hr53 : Kd.C k33 _ A53 y147.length y147 := (by rw [hA53]; exact hr53); rw [← hy53, ← hA53, ← hc53] at hcut53; have HR150 := Aside0.mk hr53; have HC150 := Aside0.mk (show y147.length ≤ c53 from by rw [hy53, hc53]; exact Nat.sub_le_sub_right hroom53 _); clear hr53 hC53 hroom53 hi053 hsz53 hc53; have KY53 := Aside0.mk hy53; have KA53 := Aside0.mk hA53; clear hy53 hA53; replace q53 := eq_true q53) | ((with_reducible refine gate_builtin (b := .append) (xs := #[.tmp 48, .tmp 51]) rfl ?_); at_builtin; refine Kd.R_append_rows k33 (w0 := w) w.heap.size rfl (.tmp 48) (.tmp 51) 24 33 (.agg #[(.string ⟨#[]⟩), (.string ⟨#[]⟩), (.string ⟨#[]⟩), (.int .i64 0), (.bool false)]) 64 rfl Try.underlying24 info33 rfl (by decide) (by omega) v145 y144 y147 _ _ _ (fun k_ => k_ ≠ gb104) (fun _ => False) rfl rfl ?aO ?aR (fun _ _ h => h) (fun _ h => h.elim) ?aF ?aB ?aS ?aL ?_; (case aR => repeat (first | exact (Kd.C_below HR150.out HB.out) | exact (Kd.C_drewN (Kd.C_below HR150.out HB.out) _) | (with_reducible refine Kd.C_alloc ?_ _) | (with_reducible refine Kd.C_drewN ?_ _) | (with_reducible refine Kd.C_drew ?_))); (case aB => exact zb5_1); (case aF => exact (fun k_ hk => Kd.freshB (g := gb104) (o := .cells #[.string a1_0, .string a1_1, .string a1_2, .int .i64 a1_3, .bool a1_4] 33 (0, 0)) zb4_1 k_ hk)); (case aO => exact zb11_1); (case aS => exact (below_size zb5_1)); (case aL => have := LMc46.out; omega); intro v152 w54 ho hb hg hat; rw [← Ny151.out] at ho; have n0_ := Aside0.mk (blk_grown (g := gb104) (o := .cells #[.string a1_0, .string a1_1, .string a1_2, .int .i64 a1_3, .bool a1_4] 33 (0, 0)) zb4_1 hg (Kd.R_away HO146.out (fun _ hk => hk))); have n1_ := Aside0.mk (hb); have n2_ := Aside0.mk (ho); clear BK104; clear HB; clear HO146; have BK104 := n0_; have HB := n1_; have HO153 := n2_; clear n0_ n1_ n2_; clear ho hb hg hat))
         repeat (go_quiet (first | ((with_reducible refine gate_dst (N := 23) rfl ?_); refine Kd.R_lit k33 _ 33 ?hg (N := 23) ?hd (xs := ([] : List (S33))) (inner := []) (ok := fun _ => True) (okp := fun _ => True) ?hr ?hp (fun _ hk => hk) trivial (Below.refl _ _) (Nat.le_refl _) (by simp) ?_; (case hd => rfl); (case hg => rfl); (case hr => first | (go_simp; done) | (go_simp; rfl)); (case hp => exact (Reps.none _ _)); intro v135 w47 ho48 hb hg_ hnew_; clear hg_ hnew_; (first | rw [← Ny134.out] at ho48 | (simp only [Int.reduceToNat] at ho48; rw [← Ny134.out] at ho48)); have n0_ := Aside0.mk (Kd.R_lower (Kd.R_newB ho48 (g := gb104) (o := .cells #[.string a1_0, .string a1_1, .string a1_2, .int .i64 a1_3, .bool a1_4] 33 (0, 0)) zb4_1) (below_size zb5_1)); have n1_ := Aside0.mk (blk_below (g := gb104) (o := .cells #[.string a1_0, .string a1_1, .string a1_2, .int .i64 a1_3, .bool a1_4] 33 (0, 0)) zb4_1 hb); have n2_ := Aside0.mk (below_step zb5_1 hb); clear BK104; clear HB; have HO136 := n0_; have BK104 := n1_; have HB := n2_; clear n0_ n1_ n2_; clear hb ho48; have q49 : (x5_1 : Int) ≤ ((l0.length : Int) : Int) := of_decide_eq_true zb3_1; obtain ⟨i049, hi049, _, hsz49, _⟩ := info_parts info33; have hroom49 : l0.length ≤ c0 := HC0.out; have hC49 : Kd.C k33 _ A0 l0.length l0 := HR0.out; have hcut49 := cut_to (P := Try.prog) 24 33 .i64 Try.underlying24 hi049 A0 l0.length c0 x5_1 (of_decide_eq_true zb3_1) q49 hroom49; have hr49 := Kd.C_take (m := (x5_1 : Int).toNat) hC49 (by omega); have hy49 : y137.length = (x5_1 : Int).toNat := (by rw [Ny137.out, List.length_take]; omega); rw [← Ny137.out] at hr49; rw [← hy49] at hcut49; have HR140 := Aside0.mk hr49; have HC140 := Aside0.mk (show y137.length ≤ c0 from by omega); clear hr49 hC49 hroom49 hi049 hsz49; have KY49 := Aside0.mk hy49; clear hy49; replace q49 := eq_true q49) | ((with_reducible refine gate_builtin (b := .append) (xs := #[.tmp 23, .tmp 26]) rfl ?_); at_builtin; refine Kd.R_append_rows k33 (w0 := w) w.heap.size rfl (.tmp 23) (.tmp 26) 24 33 (.agg #[(.string ⟨#[]⟩), (.string ⟨#[]⟩), (.string ⟨#[]⟩), (.int .i64 0), (.bool false)]) 64 rfl Try.underlying24 info33 rfl (by decide) (by omega) v135 y134 y137 _ _ _ (fun k_ => k_ ≠ gb104) (fun _ => False) rfl rfl ?aO ?aR (fun _ _ h => h) (fun _ h => h.elim) ?aF ?aB ?aS ?aL ?_; (case aR => repeat (first | exact (Kd.C_below HR140.out HB.out) | exact (Kd.C_drewN (Kd.C_below HR140.out HB.out) _) | (with_reducible refine Kd.C_alloc ?_ _) | (with_reducible refine Kd.C_drewN ?_ _) | (with_reducible refine Kd.C_drew ?_))); (case aB => exact zb5_1); (case aF => exact (fun k_ hk => Kd.freshB (g := gb104) (o := .cells #[.string a1_0, .string a1_1, .string a1_2, .int .i64 a1_3, .bool a1_4] 33 (0, 0)) zb4_1 k_ hk)); (case aO => exact zb9_1); (case aS => exact (below_size zb5_1)); (case aL => have := LMc42.out; omega); intro v142 w50 ho hb hg hat; rw [← Ny141.out] at ho; have n0_ := Aside0.mk (blk_grown (g := gb104) (o := .cells #[.string a1_0, .string a1_1, .string a1_2, .int .i64 a1_3, .bool a1_4] 33 (0, 0)) zb4_1 hg (Kd.R_away HO136.out (fun _ hk => hk.2))); have n1_ := Aside0.mk (hb); have n2_ := Aside0.mk (ho); clear BK104; clear HB; clear HO136; have BK104 := n0_; have HB := n1_; have HO143 := n2_; clear n0_ n1_ n2_; clear ho hb hg hat; have hcz51_0 := bcq_1 BK104.out 0; have hcz51_1 := bcq_1 BK104.out 1; have hcz51_2 := bcq_1 BK104.out 2; have hcz51_3 := bcq_1 BK104.out 3; have hcz51_4 := bcq_1 BK104.out 4; have hfz51_0 := blk_frozen BK104.out 0; have hfz51_1 := blk_frozen BK104.out 1; have hfz51_2 := blk_frozen BK104.out 2; have hfz51_3 := blk_frozen BK104.out 3; have hfz51_4 := blk_frozen BK104.out 4) | ((with_reducible refine gate_builtin (b := .append) (xs := #[.tmp 28, .tmp 30]) rfl ?_); at_builtin; refine Kd.R_append k33 (w0 := w) w.heap.size rfl (.tmp 28) (.tmp 30) 24 33 (.agg #[(.string ⟨#[]⟩), (.string ⟨#[]⟩), (.string ⟨#[]⟩), (.int .i64 0), (.bool false)]) 64 rfl Try.underlying24 info33 rfl (by decide) (by omega) v142 y141 (⟨a1_0, a1_1, a1_2, a1_3, a1_4⟩ : S33) [.string a1_0, .string a1_1, .string a1_2, .int .i64 a1_3, .bool a1_4] (fun k_ => k_ ≠ gb104) (fun _ => False) rfl rfl ?aP (fun _ hk => hk.elim) ?aF ?aO ?aB ?aS ?aL ?_; (case aP => exact k33_mkM _ _ _ (⟨a1_0, a1_1, a1_2, a1_3, a1_4⟩ : S33)); (case aB => exact zb5_1); (case aF => exact (fun k_ hk => Kd.freshB (g := gb104) (o := .cells #[.string a1_0, .string a1_1, .string a1_2, .int .i64 a1_3, .bool a1_4] 33 (0, 0)) zb4_1 k_ hk)); (case aO => exact zb10_1); (case aS => exact (below_size zb5_1)); (case aL => have := LMc43.out; omega); intro v145 w52 ho hb hg hat; rw [← Ny144.out] at ho; have n0_ := Aside0.mk (blk_grown (g := gb104) (o := .cells #[.string a1_0, .string a1_1, .string a1_2, .int .i64 a1_3, .bool a1_4] 33 (0, 0)) zb4_1 hg (Kd.R_away HO143.out (fun _ hk => hk))); have n1_ := Aside0.mk (hb); have n2_ := Aside0.mk (ho); clear BK104; clear HB; clear HO143; have BK104 := n0_; have HB := n1_; have HO146 := n2_; clear n0_ n1_ n2_; clear ho hb hg hat; have q53 : (x5_1 : Int) ≤ ((l0.length : Int) : Int) := of_decide_eq_true zb3_1; obtain ⟨i053, hi053, _, hsz53, _⟩ := info_parts info33; have hroom53 : l0.length ≤ c0 := HC0.out; have hC53 : Kd.C k33 _ A0 l0.length l0 := HR0.out; have q053 : (0 : Int) ≤ (x5_1 : Int) := of_decide_eq_true zb3_1; have hcut53 := cut_from (P := Try.prog) 24 33 .i64 Try.underlying24 hi053 5 hsz53 A0 l0.length c0 x5_1 q053 q53; have hr53 := Kd.C_drop (m := (x5_1 : Int).toNat) (c := c0) hC53 (by omega) hroom53; obtain ⟨A53, hA53⟩ : ∃ A1, A1 = (if c0 = (x5_1 : Int).toNat then A0 else (A0 : Option Addr).map (·.add ((x5_1 : Int).toNat * 5))) := ⟨_, rfl⟩; obtain ⟨c53, hc53⟩ : ∃ c1, c1 = c0 - (x5_1 : Int).toNat := ⟨_, rfl⟩; have hy53 : y147.length = l0.length - (x5_1 : Int).toNat := (by rw [Ny147.out, List.length_drop] <;> omega); rw [show (l0).drop (x5_1 : Int).toNat = y147 from Ny147.out.symm] at hr53; replace hr53 : Kd.C k33 _ A53 y147.length y147 := (by rw [hA53]; exact hr53); rw [← hy53, ← hA53, ← hc53] at hcut53; have HR150 := Aside0.mk hr53; have HC150 := Aside0.mk (show y147.length ≤ c53 from by rw [hy53, hc53]; exact Nat.sub_le_sub_right hroom53 _); clear hr53 hC53 hroom53 hi053 hsz53 hc53; have KY53 := Aside0.mk hy53; have KA53 := Aside0.mk hA53; clear hy53 hA53; replace q53 := eq_true q53) | ((with_reducible refine gate_builtin (b := .append) (xs := #[.tmp 48, .tmp 51]) rfl ?_); at_builtin; refine Kd.R_append_rows k33 (w0 := w) w.heap.size rfl (.tmp 48) (.tmp 51) 24 33 (.agg #[(.string ⟨#[]⟩), (.string ⟨#[]⟩), (.string ⟨#[]⟩), (.int .i64 0), (.bool false)]) 64 rfl Try.underlying24 info33 rfl (by decide) (by omega) v145 y144 y147 _ _ _ (fun k_ => k_ ≠ gb104) (fun _ => False) rfl rfl ?aO ?aR (fun _ _ h => h) (fun _ h => h.elim) ?aF ?aB ?aS ?aL ?_; (case aR => repeat (first | exact (Kd.C_below HR150.out HB.out) | exact (Kd.C_drewN (Kd.C_below HR150.out HB.out) _) | (with_reducible refine Kd.C_alloc ?_ _) | (with_reducible refine Kd.C_drewN ?_ _) | (with_reducible refine Kd.C_drew ?_))); (case aB => exact zb5_1); (case aF => exact (fun k_ hk => Kd.freshB (g := gb104) (o := .cells #[.string a1_0, .string a1_1, .string a1_2, .int .i64 a1_3, .bool a1_4] 33 (0, 0)) zb4_1 k_ hk)); (case aO => exact zb11_1); (case aS => exact (below_size zb5_1)); (case aL => have := LMc46.out; omega); intro v152 w54 ho hb hg hat; rw [← Ny151.out] at ho; have n0_ := Aside0.mk (blk_grown (g := gb104) (o := .cells #[.string a1_0, .string a1_1, .string a1_2, .int .i64 a1_3, .bool a1_4] 33 (0, 0)) zb4_1 hg (Kd.R_away HO146.out (fun _ hk => hk))); have n1_ := Aside0.mk (hb); have n2_ := Aside0.mk (ho); clear BK104; clear HB; clear HO146; have BK104 := n0_; have HB := n1_; have HO153 := n2_; clear n0_ n1_ n2_; clear ho hb hg hat)); try go_wp2_with (first | ((with_reducible refine gate_dst (N := 23) rfl ?_); refine Kd.R_lit k33 _ 33 ?hg (N := 23) ?hd (xs := ([] : List (S33))) (inner := []) (ok := fun _ => True) (okp := fun _ => True) ?hr ?hp (fun _ hk => hk) trivial (Below.refl _ _) (Nat.le_refl _) (by simp) ?_; (case hd => rfl); (case hg => rfl); (case hr => first | (go_simp; done) | (go_simp; rfl)); (case hp => exact (Reps.none _ _)); intro v135 w47 ho48 hb hg_ hnew_; clear hg_ hnew_; (first | rw [← Ny134.out] at ho48 | (simp only [Int.reduceToNat] at ho48; rw [← Ny134.out] at ho48)); have n0_ := Aside0.mk (Kd.R_lower (Kd.R_newB ho48 (g := gb104) (o := .cells #[.string a1_0, .string a1_1, .string a1_2, .int .i64 a1_3, .bool a1_4] 33 (0, 0)) zb4_1) (below_size zb5_1)); have n1_ := Aside0.mk (blk_below (g := gb104) (o := .cells #[.string a1_0, .string a1_1, .string a1_2, .int .i64 a1_3, .bool a1_4] 33 (0, 0)) zb4_1 hb); have n2_ := Aside0.mk (below_step zb5_1 hb); clear BK104; clear HB; have HO136 := n0_; have BK104 := n1_; have HB := n2_; clear n0_ n1_ n2_; clear hb ho48; have q49 : (x5_1 : Int) ≤ ((l0.length : Int) : Int) := of_decide_eq_true zb3_1; obtain ⟨i049, hi049, _, hsz49, _⟩ := info_parts info33; have hroom49 : l0.length ≤ c0 := HC0.out; have hC49 : Kd.C k33 _ A0 l0.length l0 := HR0.out; have hcut49 := cut_to (P := Try.prog) 24 33 .i64 Try.underlying24 hi049 A0 l0.length c0 x5_1 (of_decide_eq_true zb3_1) q49 hroom49; have hr49 := Kd.C_take (m := (x5_1 : Int).toNat) hC49 (by omega); have hy49 : y137.length = (x5_1 : Int).toNat := (by rw [Ny137.out, List.length_take]; omega); rw [← Ny137.out] at hr49; rw [← hy49] at hcut49; have HR140 := Aside0.mk hr49; have HC140 := Aside0.mk (show y137.length ≤ c0 from by omega); clear hr49 hC49 hroom49 hi049 hsz49; have KY49 := Aside0.mk hy49; clear hy49; replace q49 := eq_true q49) | ((with_reducible refine gate_builtin (b := .append) (xs := #[.tmp 23, .tmp 26]) rfl ?_); at_builtin; refine Kd.R_append_rows k33 (w0 := w) w.heap.size rfl (.tmp 23) (.tmp 26) 24 33 (.agg #[(.string ⟨#[]⟩), (.string ⟨#[]⟩), (.string ⟨#[]⟩), (.int .i64 0), (.bool false)]) 64 rfl Try.underlying24 info33 rfl (by decide) (by omega) v135 y134 y137 _ _ _ (fun k_ => k_ ≠ gb104) (fun _ => False) rfl rfl ?aO ?aR (fun _ _ h => h) (fun _ h => h.elim) ?aF ?aB ?aS ?aL ?_; (case aR => repeat (first | exact (Kd.C_below HR140.out HB.out) | exact (Kd.C_drewN (Kd.C_below HR140.out HB.out) _) | (with_reducible refine Kd.C_alloc ?_ _) | (with_reducible refine Kd.C_drewN ?_ _) | (with_reducible refine Kd.C_drew ?_))); (case aB => exact zb5_1); (case aF => exact (fun k_ hk => Kd.freshB (g := gb104) (o := .cells #[.string a1_0, .string a1_1, .string a1_2, .int .i64 a1_3, .bool a1_4] 33 (0, 0)) zb4_1 k_ hk)); (case aO => exact zb9_1); (case aS => exact (below_size zb5_1)); (case aL => have := LMc42.out; omega); intro v142 w50 ho hb hg hat; rw [← Ny141.out] at ho; have n0_ := Aside0.mk (blk_grown (g := gb104) (o := .cells #[.string a1_0, .string a1_1, .string a1_2, .int .i64 a1_3, .bool a1_4] 33 (0, 0)) zb4_1 hg (Kd.R_away HO136.out (fun _ hk => hk.2))); have n1_ := Aside0.mk (hb); have n2_ := Aside0.mk (ho); clear BK104; clear HB; clear HO136; have BK104 := n0_; have HB := n1_; have HO143 := n2_; clear n0_ n1_ n2_; clear ho hb hg hat; have hcz51_0 := bcq_1 BK104.out 0; have hcz51_1 := bcq_1 BK104.out 1; have hcz51_2 := bcq_1 BK104.out 2; have hcz51_3 := bcq_1 BK104.out 3; have hcz51_4 := bcq_1 BK104.out 4; have hfz51_0 := blk_frozen BK104.out 0; have hfz51_1 := blk_frozen BK104.out 1; have hfz51_2 := blk_frozen BK104.out 2; have hfz51_3 := blk_frozen BK104.out 3; have hfz51_4 := blk_frozen BK104.out 4) | ((with_reducible refine gate_builtin (b := .append) (xs := #[.tmp 28, .tmp 30]) rfl ?_); at_builtin; refine Kd.R_append k33 (w0 := w) w.heap.size rfl (.tmp 28) (.tmp 30) 24 33 (.agg #[(.string ⟨#[]⟩), (.string ⟨#[]⟩), (.string ⟨#[]⟩), (.int .i64 0), (.bool false)]) 64 rfl Try.underlying24 info33 rfl (by decide) (by omega) v142 y141 (⟨a1_0, a1_1, a1_2, a1_3, a1_4⟩ : S33) [.string a1_0, .string a1_1, .string a1_2, .int .i64 a1_3, .bool a1_4] (fun k_ => k_ ≠ gb104) (fun _ => False) rfl rfl ?aP (fun _ hk => hk.elim) ?aF ?aO ?aB ?aS ?aL ?_; (case aP => exact k33_mkM _ _ _ (⟨a1_0, a1_1, a1_2, a1_3, a1_4⟩ : S33)); (case aB => exact zb5_1); (case aF => exact (fun k_ hk => Kd.freshB (g := gb104) (o := .cells #[.string a1_0, .string a1_1, .string a1_2, .int .i64 a1_3, .bool a1_4] 33 (0, 0)) zb4_1 k_ hk)); (case aO => exact zb10_1); (case aS => exact (below_size zb5_1)); (case aL => have := LMc43.out; omega); intro v145 w52 ho hb hg hat; rw [← Ny144.out] at ho; have n0_ := Aside0.mk (blk_grown (g := gb104) (o := .cells #[.string a1_0, .string a1_1, .string a1_2, .int .i64 a1_3, .bool a1_4] 33 (0, 0)) zb4_1 hg (Kd.R_away HO143.out (fun _ hk => hk))); have n1_ := Aside0.mk (hb); have n2_ := Aside0.mk (ho); clear BK104; clear HB; clear HO143; have BK104 := n0_; have HB := n1_; have HO146 := n2_; clear n0_ n1_ n2_; clear ho hb hg hat; have q53 : (x5_1 : Int) ≤ ((l0.length : Int) : Int) := of_decide_eq_true zb3_1; obtain ⟨i053, hi053, _, hsz53, _⟩ := info_parts info33; have hroom53 : l0.length ≤ c0 := HC0.out; have hC53 : Kd.C k33 _ A0 l0.length l0 := HR0.out; have q053 : (0 : Int) ≤ (x5_1 : Int) := of_decide_eq_true zb3_1; have hcut53 := cut_from (P := Try.prog) 24 33 .i64 Try.underlying24 hi053 5 hsz53 A0 l0.length c0 x5_1 q053 q53; have hr53 := Kd.C_drop (m := (x5_1 : Int).toNat) (c := c0) hC53 (by omega) hroom53; obtain ⟨A53, hA53⟩ : ∃ A1, A1 = (if c0 = (x5_1 : Int).toNat then A0 else (A0 : Option Addr).map (·.add ((x5_1 : Int).toNat * 5))) := ⟨_, rfl⟩; obtain ⟨c53, hc53⟩ : ∃ c1, c1 = c0 - (x5_1 : Int).toNat := ⟨_, rfl⟩; have hy53 : y147.length = l0.length - (x5_1 : Int).toNat := (by rw [Ny147.out, List.length_drop] <;> omega); rw [show (l0).drop (x5_1 : Int).toNat = y147 from Ny147.out.symm] at hr53; replace hr53 : Kd.C k33 _ A53 y147.length y147 := (by rw [hA53]; exact hr53); rw [← hy53, ← hA53, ← hc53] at hcut53; have HR150 := Aside0.mk hr53; have HC150 := Aside0.mk (show y147.length ≤ c53 from by rw [hy53, hc53]; exact Nat.sub_le_sub_right hroom53 _); clear hr53 hC53 hroom53 hi053 hsz53 hc53; have KY53 := Aside0.mk hy53; have KA53 := Aside0.mk hA53; clear hy53 hA53; replace q53 := eq_true q53) | ((with_reducible refine gate_builtin (b := .append) (xs := #[.tmp 48, .tmp 51]) rfl ?_); at_builtin; refine Kd.R_append_rows k33 (w0 := w) w.heap.size rfl (.tmp 48) (.tmp 51) 24 33 (.agg #[(.string ⟨#[]⟩), (.string ⟨#[]⟩), (.string ⟨#[]⟩), (.int .i64 0), (.bool false)]) 64 rfl Try.underlying24 info33 rfl (by decide) (by omega) v145 y144 y147 _ _ _ (fun k_ => k_ ≠ gb104) (fun _ => False) rfl rfl ?aO ?aR (fun _ _ h => h) (fun _ h => h.elim) ?aF ?aB ?aS ?aL ?_; (case aR => repeat (first | exact (Kd.C_below HR150.out HB.out) | exact (Kd.C_drewN (Kd.C_below HR150.out HB.out) _) | (with_reducible refine Kd.C_alloc ?_ _) | (with_reducible refine Kd.C_drewN ?_ _) | (with_reducible refine Kd.C_drew ?_))); (case aB => exact zb5_1); (case aF => exact (fun k_ hk => Kd.freshB (g := gb104) (o := .cells #[.string a1_0, .string a1_1, .string a1_2, .int .i64 a1_3, .bool a1_4] 33 (0, 0)) zb4_1 k_ hk)); (case aO => exact zb11_1); (case aS => exact (below_size zb5_1)); (case aL => have := LMc46.out; omega); intro v152 w54 ho hb hg hat; rw [← Ny151.out] at ho; have n0_ := Aside0.mk (blk_grown (g := gb104) (o := .cells #[.string a1_0, .string a1_1, .string a1_2, .int .i64 a1_3, .bool a1_4] 33 (0, 0)) zb4_1 hg (Kd.R_away HO146.out (fun _ hk => hk))); have n1_ := Aside0.mk (hb); have n2_ := Aside0.mk (ho); clear BK104; clear HB; clear HO146; have BK104 := n0_; have HB := n1_; have HO153 := n2_; clear n0_ n1_ n2_; clear ho hb hg hat)))
         go_ret
         exact ⟨_, by first | rfl | (simp [errW_none, errW_some] <;> rfl) | (simp [*, errW_none, errW_some] <;> rfl), by (with_reducible repeat (first | apply Kd.R_alloc | apply Kd.R_drewN | apply Kd.R_drew)); exact Kd.R_mono HO153.out (fun _ hk => trivial), by repeat (first | (with_reducible first | exact HB.out | apply below_alloc | apply pw_below_drewN | apply below_drew1 | refine below_set ?_ GE104.out) | exact HB.out)⟩
        ·
         rw [if_neg c46] at H
         exact absurd H (by simp)
       ·
        rw [if_neg c43] at H
        exact absurd H (by simp)
      ·
       rw [if_neg c42] at H
       exact absurd H (by simp)
     ·
      rw [if_neg c41] at H
      exact absurd H (by simp)
    ·
     rw [if_neg c40] at H
     exact absurd H (by simp)

/-! ### spec_l07At: function 13 -/
def spec_l07At.l0 : Nat → List (S33) → ByteArray → Int → Option (Int)
 | 0, _, _, _ => none
 | k + 1, x0, x1, x5 => if x5 < (x0.length : Int) then (if 0 ≤ x5 then (if ((rd_T33 x0 x5).f0).toList = x1.toList then (some x5) else (spec_l07At.l0 k x0 x1 (wrap64 (x5 + 1)))) else (none)) else (some (-1))
def spec_l07At.f (k : Nat) (l0 : List (S33)) (a1 : ByteArray) : Option (Int) := spec_l07At.l0 k l0 a1 0
theorem spec_l07At.mono_l : ∀ k, (∀ y0 y1 y2, LeO (spec_l07At.l0 k y0 y1 y2) (spec_l07At.l0 (k + 1) y0 y1 y2))
 | 0 => fun _ _ _ r h => by simp [spec_l07At.l0] at h
 | k + 1 => by
  have ih0 := spec_l07At.mono_l k
  ·
   intro y0 y1 y2
   unfold spec_l07At.l0
   repeat' first
   | (with_reducible exact ih0 _ _ _)
   | (with_reducible exact LeO.refl _)
   | (with_reducible exact LeO.none _)
   | (with_reducible refine LeO.ite ?_ ?_)
   | (with_reducible refine LeO.bind ?_ (fun _ => ?_))
   | exact ih0 _ _ _
   | exact LeO.none _
   | refine LeO.ite ?_ ?_
   | refine LeO.bind ?_ (fun _ => ?_)
theorem spec_l07At.mono : ∀ a0 a1 k, LeO (spec_l07At.f k a0 a1) (spec_l07At.f (k + 1) a0 a1) := by
 intro a0 a1 k
 have ih0 := spec_l07At.mono_l k
 unfold spec_l07At.f
 repeat' first
   | (with_reducible exact ih0 _ _ _)
   | (with_reducible exact LeO.refl _)
   | (with_reducible exact LeO.none _)
   | (with_reducible refine LeO.ite ?_ ?_)
   | (with_reducible refine LeO.bind ?_ (fun _ => ?_))
   | exact ih0 _ _ _
   | exact LeO.none _
   | refine LeO.ite ?_ ?_
   | refine LeO.bind ?_ (fun _ => ?_)
set_option maxHeartbeats 8000000 in
set_option maxRecDepth 100000 in
theorem spec_l07At.calls (k : Nat) (A0 : Option Addr) (c0 : Nat) (l0 : List (S33)) (a1 : ByteArray) (r : Int) (w : World) (hr0 : Kd.C k33 w A0 l0.length l0) (hc0 : l0.length ≤ c0) (h : spec_l07At.f k l0 a1 = some r) :
  Calls Try.prog 13 #[.slice A0 l0.length c0, .string a1] w fun e w' => e = .returned (.int .i64 r) ∧ Drawn0 w w' := by
 have HR0 := Aside0.mk hr0
 have HC0 := Aside0.mk hc0
 clear hr0 hc0
 have H : (spec_l07At.l0 k l0 a1 0) = some r := h
 clear h
 have H' := Aside0.mk H
 clear H
 go_enter Try.func13, Try.ntmps13
 go_wp2
 go_loopg [5] k (fun kq v5 w' => ∃ (x5_1 : Int), v5 = .int .i64 x5_1 ∧ Aside0 (spec_l07At.l0 kq l0 a1 x5_1 = some r) ∧ Aside0 (kq ≤ k) ∧ Drawn0 w w')
 case atStart => exact ⟨(0), zb2_1, H', ⟨Nat.le_refl _⟩, by repeat (first | exact Drawn0.refl _ | apply Drawn0.step)⟩
 case round =>
  clear H'
  try clear c1
  try clear p2
  obtain ⟨x5_1, rfl, HA, HK1, ⟨m1, rfl⟩⟩ := hrel
  cases gk with
  | zero => exact absurd HA.out (by simp [spec_l07At.l0])
  | succ k1 =>
   have H := HA.out
   clear HA
   simp only [spec_l07At.l0] at H
   by_cases c3 : x5_1 < (l0.length : Int)
   ·
    rw [if_pos c3] at H
    have c3b0 : decide (x5_1 < (l0.length : Int)) = true := decide_eq_true c3
    clear c3
    by_cases c4 : 0 ≤ x5_1
    ·
     rw [if_pos c4] at H
     have c4b0 : decide (0 ≤ x5_1) = true := decide_eq_true c4
     clear c4
     by_cases c5 : ((rd_T33 l0 x5_1).f0).toList = a1.toList
     ·
      rw [if_pos c5] at H
      have c5b0 : (((rd_T33 l0 x5_1).f0).toList == a1.toList) = true := beq_iff_eq.mpr c5
      have c5b1 : (((rd_T33 l0 x5_1).f0).toList != a1.toList) = false := bne_eq_false_iff_eq.mpr c5
      clear c5
      obtain rfl := Option.some.inj H
      have p154 : 0 ≤ (x5_1 : Int) := of_decide_eq_true zb3_1
      have q154 : x5_1 < (l0.length : Int) := of_decide_eq_true zb3_1
      obtain ⟨ad154, e154, hx154_0, hx154_1, hx154_2, hx154_3, hx154_4⟩ := at_T33 HR0.out x5_1 p154 q154
      cases e154
      replace p154 := eq_true p154
      replace q154 := eq_true q154
      go_wp2
      go_ret
      exact ⟨by first | rfl | (simp; done) | (simp [*]; done), by repeat (first | exact Drawn0.refl _ | apply Drawn0.step)⟩
     ·
      rw [if_neg c5] at H
      have c5b0 : (((rd_T33 l0 x5_1).f0).toList == a1.toList) = false := beq_eq_false_iff_ne.mpr c5
      have c5b1 : (((rd_T33 l0 x5_1).f0).toList != a1.toList) = true := bne_iff_ne.mpr c5
      have H' := Aside0.mk H
      clear H
      have p154 : 0 ≤ (x5_1 : Int) := of_decide_eq_true zb3_1
      have q154 : x5_1 < (l0.length : Int) := of_decide_eq_true zb3_1
      obtain ⟨ad154, e154, hx154_0, hx154_1, hx154_2, hx154_3, hx154_4⟩ := at_T33 HR0.out x5_1 p154 q154
      cases e154
      replace p154 := eq_true p154
      replace q154 := eq_true q154
      go_wp2
      go_roundg k1
      case measure => have := HK1.out; omega
      case rel => exact ⟨(wrap64 (x5_1 + 1)), zb2_1, H', ⟨by have := HK1.out; omega⟩, by repeat (first | exact Drawn0.refl _ | apply Drawn0.step)⟩
    ·
     rw [if_neg c4] at H
     exact absurd H (by simp)
   ·
    rw [if_neg c3] at H
    have c3b0 : decide (x5_1 < (l0.length : Int)) = false := decide_eq_false c3
    clear c3
    obtain rfl := Option.some.inj H
    go_wp2
    go_ret
    exact ⟨by first | rfl | (simp; done) | (simp [*]; done), by repeat (first | exact Drawn0.refl _ | apply Drawn0.step)⟩

end Go.Proofs.Ytgfmapilimlamaa.QFnExactRosterFollow
