-- laid by this session's own runner (wip/print2.py): not a printed file
import Derived.Test.YtfijkimkdccioaaDoorQFnDialbackx0
import Derived.Test.YtfijkimkdccioaaDoorQFnDialbackx4
import Derived.Test.YtfijkimkdccioaaDoorQFnDialbackx5
namespace Go.Proofs.YtfijkimkdccioaaDoor.QFnDialback
open Go.RowKit Go.Proofs.YtfijkimkdccioaaDoorW.PrintWords Go.Proofs.YtfijkimkdccioaaDoorW.PrintLast Go.Proofs.YtfijkimkdccioaaDoorW.PrintMore
attribute [local go_sem] max2_int min2_int max_two min_two max_three min_three max_four min_four   -- for this text's walks alone
set_option linter.unusedVariables false
set_option linter.unusedSimpArgs false

theorem bcq_16 {w : World} {g t : Nat} {cs : Array Value} {v : Value} (h : w.heap[g]? = some (.cells cs t (0, 0))) (j : Nat) (e : cs[j]? = some v := by rfl) : w.cell? ⟨g, j, none⟩ = some v := (blk_cell h j).trans e
theorem zb0_16 {P : Prop} (h : P := by repeat ((with_reducible (exact HB.out)))) : P := h
theorem zb1_16 {P : Prop} (h : P := by rw [hg]; exact (below_size (by repeat ((with_reducible (exact HB.out)))))) : P := h
theorem zb2_16 {P : Prop} (h : P := by exact BK573.out) : P := h
theorem zb3_16 {P : Prop} (h : P := by repeat ((with_reducible (exact HB.out)))) : P := h
theorem zb4_16 {P : Prop} (h : P := by (try simp only [List.map_toArray, List.map_cons, List.map_nil]); rfl) : P := h
theorem zb5_16 {P : Prop} (h : P := by (with_reducible assumption)) : P := h
/-! ### spec_DbTrusts: function 17 -/
def spec_DbTrusts.f (k : Nat) (a0_0 : ByteArray) (a0_1 : Int) (l0_2 : List (S43)) (a1 : ByteArray) (a2 : Int) : Option (Bool) := if (a1.size : Int) > 20000 then (some false) else ((spec_DialbackRight.f k a0_0 a0_1 l0_2).bind fun t574 => (if t574 = true then ((spec_l06Peer.f k a0_0 a0_1 l0_2 a2).bind fun t575 => (if t575 ≥ 0 then (if 0 ≤ t575 then (if t575 < (l0_2.length : Int) then (if ((rd_T43 l0_2 t575).f0).toList = a1.toList then (some (((rd_T43 l0_2 t575).f2) == 2)) else (some false)) else (none)) else (none)) else (some false))) else (some false)))
theorem spec_DbTrusts.mono : ∀ a0 a1 a2 a3 a4 k, LeO (spec_DbTrusts.f k a0 a1 a2 a3 a4) (spec_DbTrusts.f (k + 1) a0 a1 a2 a3 a4) := by
  intro a0 a1 a2 a3 a4 k
  unfold spec_DbTrusts.f
  repeat' first
      | (with_reducible exact spec_DialbackRight.mono _ _ _ _)
      | (with_reducible exact spec_l06Peer.mono _ _ _ _ _)
      | (with_reducible exact LeO.refl _)
      | (with_reducible exact LeO.none _)
      | (with_reducible refine LeO.ite ?_ ?_)
      | (with_reducible refine LeO.bind ?_ (fun _ => ?_))
      | exact spec_DialbackRight.mono _ _ _ _
      | exact spec_l06Peer.mono _ _ _ _ _
      | exact LeO.none _
      | refine LeO.ite ?_ ?_
      | refine LeO.bind ?_ (fun _ => ?_)
set_option maxHeartbeats 8000000 in
set_option maxRecDepth 100000 in
theorem spec_DbTrusts.calls (k : Nat) (a0_0 : ByteArray) (a0_1 : Int) (A0_2 : Option Addr) (c0_2 : Nat) (l0_2 : List (S43)) (a1 : ByteArray) (a2 : Int) (r : Bool) (w : World) (hr0_2 : Kd.C k43 w A0_2 l0_2.length l0_2) (hc0_2 : l0_2.length ≤ c0_2) (h : spec_DbTrusts.f k a0_0 a0_1 l0_2 a1 a2 = some r) :
    Calls Tryd.prog 17 #[.agg #[.string a0_0, .int .i64 a0_1, .slice A0_2 l0_2.length c0_2], .string a1, .int .i64 a2] w fun e w' => e = .returned (.bool r) ∧ Below w.heap.size w w' := by
 have hu25 := Tryd.underlying25
 have HR0_2 := Aside0.mk hr0_2
 have HC0_2 := Aside0.mk hc0_2
 clear hr0_2 hc0_2
 have HB := Aside0.mk (Below.refl w.heap.size w)
 have H : (if (a1.size : Int) > 20000 then (some false) else ((spec_DialbackRight.f k a0_0 a0_1 l0_2).bind fun t574 => (if t574 = true then ((spec_l06Peer.f k a0_0 a0_1 l0_2 a2).bind fun t575 => (if t575 ≥ 0 then (if 0 ≤ t575 then (if t575 < (l0_2.length : Int) then (if ((rd_T43 l0_2 t575).f0).toList = a1.toList then (some (((rd_T43 l0_2 t575).f2) == 2)) else (some false)) else (none)) else (none)) else (some false))) else (some false)))) = some r := h
 clear h
 go_enter Tryd.func17, Tryd.ntmps17
 by_cases c4 : (a1.size : Int) > 20000
 ·
  rw [if_pos c4] at H
  have c4b0 : decide (20000 < (a1.size : Int)) = true := decide_eq_true c4
  have c4b1 : decide (20000 < a1.size) = true := decide_eq_true (by omega)
  clear c4
  obtain rfl := Option.some.inj H
  (try rw [c4b0])
  (try rw [c4b1])
  go_wp2_with (((with_reducible refine gate_dst (N := 3) rfl ?_); refine box_event ?hg (N := 3) ?hd (cs := #[.string a0_0, .int .i64 a0_1, .slice A0_2 l0_2.length c0_2]) (t := 25) ?hr ?_; (case hd => rfl); (case hg => rfl); (case hr => (go_simp; done)); intro gb573 hg w5 hbox hb; have BK573 := Aside0.mk (hbox); have GW573 := Aside0.mk ((zb1_16 : w.heap.size ≤ gb573)); have GE573 := GW573; replace HB := Aside0.mk (below_step zb0_16 hb); clear hb hbox hg))
  go_ret
  exact ⟨by rfl, by repeat ((with_reducible (exact HB.out)))⟩
 rw [if_neg c4] at H
 have c4b0 : decide (20000 < (a1.size : Int)) = false := decide_eq_false c4
 have c4b1 : decide (20000 < a1.size) = false := decide_eq_false (by omega)
 clear c4
 replace H := Option.bind_eq_some_iff.mp H
 obtain ⟨t574, A60, H⟩ := H
 (try dsimp -simprocs only at H)
 have A6 := Aside0.mk A60
 clear A60
 (try rw [c4b0])
 (try rw [c4b1])
 by_cases c7 : t574 = true
 rotate_left
 ·
  replace c7 := Bool.eq_false_iff.mpr c7
  subst c7
  rw [if_neg (show ¬ (false = true) by decide)] at H
  obtain rfl := Option.some.inj H
  go_wp2_with (first | ((with_reducible refine gate_dst (N := 3) rfl ?_); refine box_event ?hg (N := 3) ?hd (cs := #[.string a0_0, .int .i64 a0_1, .slice A0_2 l0_2.length c0_2]) (t := 25) ?hr ?_; (case hd => rfl); (case hg => rfl); (case hr => (go_simp; done)); intro gb573 hg w30 hbox hb; have BK573 := Aside0.mk (hbox); have GW573 := Aside0.mk ((zb1_16 : w.heap.size ≤ gb573)); have GE573 := GW573; replace HB := Aside0.mk (below_step zb0_16 hb); clear hb hbox hg; obtain ⟨z0, z1, z2, z3, z4, z5⟩ := bz3 BK573.out) | (go_at_call 15; (with_reducible refine (spec_DialbackRight.calls k a0_0 a0_1 _ _ l0_2 false _ ?side1 ?side2 A6.out).mono ?_); (case side1 => repeat ((exact (Kd.C_below HR0_2.out HB.out)))); (case side2 => exact HC0_2.out); rintro e w32 ⟨rfl, hb⟩; replace BK573 := bkb BK573 hb; replace HB := Aside0.mk (below_step zb3_16 hb); (try clear hb)))
  go_ret
  exact ⟨by rfl, by repeat ((with_reducible (exact HB.out)))⟩
 subst c7
 rw [if_pos rfl] at H
 replace H := Option.bind_eq_some_iff.mp H
 obtain ⟨t575, A80, H⟩ := H
 (try dsimp -simprocs only at H)
 have A8 := Aside0.mk A80
 clear A80
 by_cases c9 : t575 ≥ 0
 rotate_left
 ·
  rw [if_neg c9] at H
  have c9b0 : decide (0 ≤ t575) = false := decide_eq_false c9
  clear c9
  obtain rfl := Option.some.inj H
  (try rw [c9b0])
  go_wp2_with (first | ((with_reducible refine gate_dst (N := 3) rfl ?_); refine box_event ?hg (N := 3) ?hd (cs := #[.string a0_0, .int .i64 a0_1, .slice A0_2 l0_2.length c0_2]) (t := 25) ?hr ?_; (case hd => rfl); (case hg => rfl); (case hr => (go_simp; done)); intro gb573 hg w25 hbox hb; have BK573 := Aside0.mk (hbox); have GW573 := Aside0.mk ((zb1_16 : w.heap.size ≤ gb573)); have GE573 := GW573; replace HB := Aside0.mk (below_step zb0_16 hb); clear hb hbox hg; obtain ⟨z0, z1, z2, z3, z4, z5⟩ := bz3 BK573.out) | (go_at_call 15; (with_reducible refine (spec_DialbackRight.calls k a0_0 a0_1 _ _ l0_2 true _ ?side1 ?side2 A6.out).mono ?_); (case side1 => repeat ((exact (Kd.C_below HR0_2.out HB.out)))); (case side2 => exact HC0_2.out); rintro e w27 ⟨rfl, hb⟩; replace BK573 := bkb BK573 hb; replace HB := Aside0.mk (below_step zb3_16 hb); (try clear hb); obtain ⟨z0, z1, z2, z3, z4, z5⟩ := bz3 BK573.out) | ((with_reducible refine gate_callee (f := 32) rfl ?_); refine goesL_ (some 18) rfl rfl Tryd.func32 (by kernel_rfl) rfl #[.agg #[.string a0_0, .int .i64 a0_1, .slice A0_2 l0_2.length c0_2], .int .i64 a2] rfl zb4_16 ?_; (with_reducible refine (spec_l06Peer.calls k a0_0 a0_1 _ _ l0_2 a2 t575 _ ?side1 ?side2 A8.out).mono ?_); (case side1 => repeat ((exact (Kd.C_below HR0_2.out HB.out)))); (case side2 => exact HC0_2.out); rintro e w29 ⟨rfl, hb⟩; refine ⟨_, rfl, ?_⟩; replace BK573 := bkb BK573 hb; replace HB := Aside0.mk (below_step zb3_16 hb); (try clear hb)))
  go_ret
  exact ⟨by rfl, by repeat ((with_reducible (exact HB.out)))⟩
 rw [if_pos c9] at H
 have c9b0 : decide (0 ≤ t575) = true := decide_eq_true c9
 clear c9
 (try rw [c9b0])
 by_cases c10 : 0 ≤ t575
 rotate_left
 · rw [if_neg c10] at H; exact absurd H (by simp)
 rw [if_pos c10] at H
 have c10b0 := decide_eq_true c10
 clear c10
 by_cases c11 : t575 < (l0_2.length : Int)
 rotate_left
 · rw [if_neg c11] at H; exact absurd H (by simp)
 rw [if_pos c11] at H
 have c11b0 := decide_eq_true c11
 clear c11
 by_cases c12 : ((rd_T43 l0_2 t575).f0).toList = a1.toList
 rotate_left
 ·
  rw [if_neg c12] at H
  have c12b0 : (((rd_T43 l0_2 t575).f0).toList == a1.toList) = false := beq_eq_false_iff_ne.mpr c12
  have c12b1 : (((rd_T43 l0_2 t575).f0).toList != a1.toList) = true := bne_iff_ne.mpr c12
  obtain rfl := Option.some.inj H
  (try rw [c12b0])
  (try rw [c12b1])
  go_wp2_with (first | ((with_reducible refine gate_dst (N := 3) rfl ?_); refine box_event ?hg (N := 3) ?hd (cs := #[.string a0_0, .int .i64 a0_1, .slice A0_2 l0_2.length c0_2]) (t := 25) ?hr ?_; (case hd => rfl); (case hg => rfl); (case hr => (go_simp; done)); intro gb573 hg w19 hbox hb; have BK573 := Aside0.mk (hbox); have GW573 := Aside0.mk ((zb1_16 : w.heap.size ≤ gb573)); have GE573 := GW573; replace HB := Aside0.mk (below_step zb0_16 hb); clear hb hbox hg; obtain ⟨z0, z1, z2, z3, z4, z5⟩ := bz3 BK573.out) | (go_at_call 15; (with_reducible refine (spec_DialbackRight.calls k a0_0 a0_1 _ _ l0_2 true _ ?side1 ?side2 A6.out).mono ?_); (case side1 => repeat ((exact (Kd.C_below HR0_2.out HB.out)))); (case side2 => exact HC0_2.out); rintro e w21 ⟨rfl, hb⟩; replace BK573 := bkb BK573 hb; replace HB := Aside0.mk (below_step zb3_16 hb); (try clear hb); obtain ⟨z0, z1, z2, z3, z4, z5⟩ := bz3 BK573.out) | ((with_reducible refine gate_callee (f := 32) rfl ?_); refine goesL_ (some 18) rfl rfl Tryd.func32 (by kernel_rfl) rfl #[.agg #[.string a0_0, .int .i64 a0_1, .slice A0_2 l0_2.length c0_2], .int .i64 a2] rfl zb4_16 ?_; (with_reducible refine (spec_l06Peer.calls k a0_0 a0_1 _ _ l0_2 a2 t575 _ ?side1 ?side2 A8.out).mono ?_); (case side1 => repeat ((exact (Kd.C_below HR0_2.out HB.out)))); (case side2 => exact HC0_2.out); rintro e w23 ⟨rfl, hb⟩; refine ⟨_, rfl, ?_⟩; replace BK573 := bkb BK573 hb; replace HB := Aside0.mk (below_step zb3_16 hb); (try clear hb); obtain ⟨z0, z1, z2, z3, z4, z5⟩ := bz3 BK573.out; have p576 : 0 ≤ (t575 : Int) := of_decide_eq_true zb5_16; have q576 : t575 < (l0_2.length : Int) := of_decide_eq_true zb5_16; obtain ⟨ad576, e576, hx576_0, hx576_1, hx576_2, hx576_3⟩ := at_T43 HR0_2.out t575 p576 q576; cases e576; replace hx576_0 := (HB.out.cell (World.block_lt_of_cell? w _ hx576_0)).trans hx576_0; replace hx576_1 := (HB.out.cell (World.block_lt_of_cell? w _ hx576_1)).trans hx576_1; replace hx576_2 := (HB.out.cell (World.block_lt_of_cell? w _ hx576_2)).trans hx576_2; replace hx576_3 := (HB.out.cell (World.block_lt_of_cell? w _ hx576_3)).trans hx576_3; replace p576 := eq_true p576; replace q576 := eq_true q576))
  go_ret
  exact ⟨by rfl, by repeat ((with_reducible (exact HB.out)))⟩
 rw [if_pos c12] at H
 have c12b0 : (((rd_T43 l0_2 t575).f0).toList == a1.toList) = true := beq_iff_eq.mpr c12
 have c12b1 : (((rd_T43 l0_2 t575).f0).toList != a1.toList) = false := bne_eq_false_iff_eq.mpr c12
 clear c12
 obtain rfl := Option.some.inj H
 (try rw [c12b0])
 (try rw [c12b1])
 go_wp2_with (first | ((with_reducible refine gate_dst (N := 3) rfl ?_); refine box_event ?hg (N := 3) ?hd (cs := #[.string a0_0, .int .i64 a0_1, .slice A0_2 l0_2.length c0_2]) (t := 25) ?hr ?_; (case hd => rfl); (case hg => rfl); (case hr => (go_simp; done)); intro gb573 hg w13 hbox hb; have BK573 := Aside0.mk (hbox); have GW573 := Aside0.mk ((zb1_16 : w.heap.size ≤ gb573)); have GE573 := GW573; replace HB := Aside0.mk (below_step zb0_16 hb); clear hb hbox hg; obtain ⟨z0, z1, z2, z3, z4, z5⟩ := bz3 BK573.out) | (go_at_call 15; (with_reducible refine (spec_DialbackRight.calls k a0_0 a0_1 _ _ l0_2 true _ ?side1 ?side2 A6.out).mono ?_); (case side1 => repeat ((exact (Kd.C_below HR0_2.out HB.out)))); (case side2 => exact HC0_2.out); rintro e w15 ⟨rfl, hb⟩; replace BK573 := bkb BK573 hb; replace HB := Aside0.mk (below_step zb3_16 hb); (try clear hb); obtain ⟨z0, z1, z2, z3, z4, z5⟩ := bz3 BK573.out) | ((with_reducible refine gate_callee (f := 32) rfl ?_); refine goesL_ (some 18) rfl rfl Tryd.func32 (by kernel_rfl) rfl #[.agg #[.string a0_0, .int .i64 a0_1, .slice A0_2 l0_2.length c0_2], .int .i64 a2] rfl zb4_16 ?_; (with_reducible refine (spec_l06Peer.calls k a0_0 a0_1 _ _ l0_2 a2 t575 _ ?side1 ?side2 A8.out).mono ?_); (case side1 => repeat ((exact (Kd.C_below HR0_2.out HB.out)))); (case side2 => exact HC0_2.out); rintro e w17 ⟨rfl, hb⟩; refine ⟨_, rfl, ?_⟩; replace BK573 := bkb BK573 hb; replace HB := Aside0.mk (below_step zb3_16 hb); (try clear hb); obtain ⟨z0, z1, z2, z3, z4, z5⟩ := bz3 BK573.out; have p576 : 0 ≤ (t575 : Int) := of_decide_eq_true zb5_16; have q576 : t575 < (l0_2.length : Int) := of_decide_eq_true zb5_16; obtain ⟨ad576, e576, hx576_0, hx576_1, hx576_2, hx576_3⟩ := at_T43 HR0_2.out t575 p576 q576; cases e576; replace hx576_0 := (HB.out.cell (World.block_lt_of_cell? w _ hx576_0)).trans hx576_0; replace hx576_1 := (HB.out.cell (World.block_lt_of_cell? w _ hx576_1)).trans hx576_1; replace hx576_2 := (HB.out.cell (World.block_lt_of_cell? w _ hx576_2)).trans hx576_2; replace hx576_3 := (HB.out.cell (World.block_lt_of_cell? w _ hx576_3)).trans hx576_3; replace p576 := eq_true p576; replace q576 := eq_true q576; have p577 : 0 ≤ (t575 : Int) := of_decide_eq_true zb5_16; have q577 : t575 < (l0_2.length : Int) := of_decide_eq_true zb5_16; obtain ⟨ad577, e577, hx577_0, hx577_1, hx577_2, hx577_3⟩ := at_T43 HR0_2.out t575 p577 q577; obtain rfl : ad576 = ad577 := (by injection e577); replace hx577_0 := (HB.out.cell (World.block_lt_of_cell? w _ hx577_0)).trans hx577_0; replace hx577_1 := (HB.out.cell (World.block_lt_of_cell? w _ hx577_1)).trans hx577_1; replace hx577_2 := (HB.out.cell (World.block_lt_of_cell? w _ hx577_2)).trans hx577_2; replace hx577_3 := (HB.out.cell (World.block_lt_of_cell? w _ hx577_3)).trans hx577_3; replace p577 := eq_true p577; replace q577 := eq_true q577))
 go_ret
 exact ⟨by rfl, by repeat ((with_reducible (exact HB.out)))⟩
end Go.Proofs.YtfijkimkdccioaaDoor.QFnDialback
