-- laid by this session's own runner (wip/print2.py): not a printed file
import Derived.Test.YtfijkimkdccioaaDoorQFnDialbackx0
import Derived.Test.YtfijkimkdccioaaDoorQFnDialbackx1
import Derived.Test.YtfijkimkdccioaaDoorQFnDialbackx10
import Derived.Test.YtfijkimkdccioaaDoorQFnDialbackx12
namespace Go.Proofs.YtfijkimkdccioaaDoor.QFnDialback
open Go.RowKit Go.Proofs.YtfijkimkdccioaaDoorW.PrintWords Go.Proofs.YtfijkimkdccioaaDoorW.PrintLast Go.Proofs.YtfijkimkdccioaaDoorW.PrintMore
attribute [local go_sem] max2_int min2_int max_two min_two max_three min_three max_four min_four   -- for this text's walks alone
set_option linter.unusedVariables false
set_option linter.unusedSimpArgs false

attribute [local go_sem high] eqA43
theorem bcq_14 {w : World} {g t : Nat} {cs : Array Value} {v : Value} (h : w.heap[g]? = some (.cells cs t (0, 0))) (j : Nat) (e : cs[j]? = some v := by rfl) : w.cell? ⟨g, j, none⟩ = some v := (blk_cell h j).trans e
theorem zb0_14 {P : Prop} (h : P := by repeat ((with_reducible (exact HB.out)))) : P := h
theorem zb1_14 {P : Prop} (h : P := by rw [hg]; exact (below_size (by repeat ((with_reducible (exact HB.out)))))) : P := h
theorem zb2_14 {P : Prop} (h : P := by exact BK501.out) : P := h
theorem zb3_14 {P : Prop} (h : P := by repeat ((with_reducible (exact HB.out)))) : P := h
theorem zb4_14 {P : Prop} (h : P := by rw [hg]; exact (below_size (by repeat ((with_reducible (exact HB.out)))))) : P := h
theorem zb5_14 {P : Prop} (h : P := by rw [hg]; exact Nat.ne_of_lt (blk_lt (g := gb501) (o := .cells #[.string a0_0, .int .i64 a0_1, .slice A0_2 l0_2.length c0_2] 25 (0, 0)) (by exact BK501.out))) : P := h
theorem zb6_14 {P : Prop} (h : P := by rw [hg]; exact Nat.ne_of_gt (blk_lt (g := gb501) (o := .cells #[.string a0_0, .int .i64 a0_1, .slice A0_2 l0_2.length c0_2] 25 (0, 0)) (by exact BK501.out))) : P := h
theorem zb7_14 {P : Prop} (h : P := by rfl) : P := h
theorem zb8_14 {P : Prop} (h : P := by (with_reducible assumption)) : P := h
theorem zb9_14 {P : Prop} (h : P := by (try simp only [List.map_toArray, List.map_cons, List.map_nil]); rfl) : P := h
theorem zb10_14 {P : Prop} (h : P := by exact BK505.out) : P := h
theorem zb11_14 {P : Prop} (h : P := by repeat ((with_reducible (exact HB.out)))) : P := h
theorem zb12_14 {P : Prop} (h : P := by (exact hmx.below HB.out)) : P := h
/-! ### laws_lwDialback: function 11 -/
mutual
def laws_lwDialback.j0 : Nat → Bool → ByteArray → Int → List (S43) → ByteArray → Int → List (S43) → Option (Bool)
 | 0, _, _, _, _, _, _, _ => none
 | k + 1, x26, x502000, x502001, x502002, x503000, x503001, x503002 => if x26 = true then (some false) else (laws_lwDialback.l0 k 0 x502000 x502001 x502002 x503000 x503001 x503002)
def laws_lwDialback.l0 : Nat → Int → ByteArray → Int → List (S43) → ByteArray → Int → List (S43) → Option (Bool)
 | 0, _, _, _, _, _, _, _ => none
 | k + 1, x5, x502000, x502001, x502002, x503000, x503001, x503002 => if x5 < (x502002.length : Int) then (if 0 ≤ x5 then (if x5 < (x503002.length : Int) then (if (!((((rd_T43 x502002 x5).f0).toList) == (((rd_T43 x503002 x5).f0).toList)) || (!(((rd_T43 x502002 x5).f1) == ((rd_T43 x503002 x5).f1)) || (!(((rd_T43 x502002 x5).f2) == ((rd_T43 x503002 x5).f2)) || (!((((rd_T43 x502002 x5).f3).toList) == (((rd_T43 x503002 x5).f3).toList)))))) = true then (some false) else (laws_lwDialback.l0 k (wrap64 (x5 + 1)) x502000 x502001 x502002 x503000 x503001 x503002)) else (none)) else (none)) else (some true)
end
def laws_lwDialback.f (k : Nat) (a0_0 : ByteArray) (a0_1 : Int) (l0_2 : List (S43)) (a1_0 : ByteArray) (a1_1 : Int) (l1_2 : List (S43)) : Option (Bool) := if a0_0.toList = a1_0.toList then (if a0_1 = a1_1 then (laws_lwDialback.j0 k ((l0_2.length : Int) != (l1_2.length : Int)) a0_0 a0_1 l0_2 a1_0 a1_1 l1_2) else (laws_lwDialback.j0 k true a0_0 a0_1 l0_2 a1_0 a1_1 l1_2)) else (laws_lwDialback.j0 k true a0_0 a0_1 l0_2 a1_0 a1_1 l1_2)
theorem laws_lwDialback.mono_l : ∀ k, (∀ y0 y1 y2 y3 y4 y5 y6, LeO (laws_lwDialback.j0 k y0 y1 y2 y3 y4 y5 y6) (laws_lwDialback.j0 (k + 1) y0 y1 y2 y3 y4 y5 y6)) ∧ (∀ y0 y1 y2 y3 y4 y5 y6, LeO (laws_lwDialback.l0 k y0 y1 y2 y3 y4 y5 y6) (laws_lwDialback.l0 (k + 1) y0 y1 y2 y3 y4 y5 y6))
 | 0 => ⟨fun _ _ _ _ _ _ _ r h => by simp [laws_lwDialback.j0] at h, fun _ _ _ _ _ _ _ r h => by simp [laws_lwDialback.l0] at h⟩
 | k + 1 => by
  obtain ⟨ih0, ih1⟩ := laws_lwDialback.mono_l k
  refine ⟨?_, ?_⟩
  ·
   intro y0 y1 y2 y3 y4 y5 y6
   unfold laws_lwDialback.j0
   repeat' first
   | (with_reducible exact ih0 _ _ _ _ _ _ _)
   | (with_reducible exact ih1 _ _ _ _ _ _ _)
   | (with_reducible exact LeO.refl _)
   | (with_reducible exact LeO.none _)
   | (with_reducible refine LeO.ite ?_ ?_)
   | (with_reducible refine LeO.bind ?_ (fun _ => ?_))
   | exact ih0 _ _ _ _ _ _ _
   | exact ih1 _ _ _ _ _ _ _
   | exact LeO.none _
   | refine LeO.ite ?_ ?_
   | refine LeO.bind ?_ (fun _ => ?_)
  ·
   intro y0 y1 y2 y3 y4 y5 y6
   unfold laws_lwDialback.l0
   repeat' first
   | (with_reducible exact ih0 _ _ _ _ _ _ _)
   | (with_reducible exact ih1 _ _ _ _ _ _ _)
   | (with_reducible exact LeO.refl _)
   | (with_reducible exact LeO.none _)
   | (with_reducible refine LeO.ite ?_ ?_)
   | (with_reducible refine LeO.bind ?_ (fun _ => ?_))
   | exact ih0 _ _ _ _ _ _ _
   | exact ih1 _ _ _ _ _ _ _
   | exact LeO.none _
   | refine LeO.ite ?_ ?_
   | refine LeO.bind ?_ (fun _ => ?_)
theorem laws_lwDialback.mono : ∀ a0 a1 a2 a3 a4 a5 k, LeO (laws_lwDialback.f k a0 a1 a2 a3 a4 a5) (laws_lwDialback.f (k + 1) a0 a1 a2 a3 a4 a5) := by
 intro a0 a1 a2 a3 a4 a5 k
 obtain ⟨ih0, ih1⟩ := laws_lwDialback.mono_l k
 unfold laws_lwDialback.f
 repeat' first
   | (with_reducible exact ih0 _ _ _ _ _ _ _)
   | (with_reducible exact ih1 _ _ _ _ _ _ _)
   | (with_reducible exact LeO.refl _)
   | (with_reducible exact LeO.none _)
   | (with_reducible refine LeO.ite ?_ ?_)
   | (with_reducible refine LeO.bind ?_ (fun _ => ?_))
   | exact ih0 _ _ _ _ _ _ _
   | exact ih1 _ _ _ _ _ _ _
   | exact LeO.none _
   | refine LeO.ite ?_ ?_
   | refine LeO.bind ?_ (fun _ => ?_)
set_option maxHeartbeats 8000000 in
set_option maxRecDepth 100000 in
theorem laws_lwDialback.calls (k : Nat) (a0_0 : ByteArray) (a0_1 : Int) (A0_2 : Option Addr) (c0_2 : Nat) (l0_2 : List (S43)) (a1_0 : ByteArray) (a1_1 : Int) (A1_2 : Option Addr) (c1_2 : Nat) (l1_2 : List (S43)) (r : Bool) (w : World) (hr0_2 : Kd.C k43 w A0_2 l0_2.length l0_2) (hc0_2 : l0_2.length ≤ c0_2) (hr1_2 : Kd.C k43 w A1_2 l1_2.length l1_2) (hc1_2 : l1_2.length ≤ c1_2) (h : laws_lwDialback.f k a0_0 a0_1 l0_2 a1_0 a1_1 l1_2 = some r) :
  Calls Tryd.prog 11 #[.agg #[.string a0_0, .int .i64 a0_1, .slice A0_2 l0_2.length c0_2], .agg #[.string a1_0, .int .i64 a1_1, .slice A1_2 l1_2.length c1_2]] w fun e w' => e = .returned (.bool r) ∧ Below w.heap.size w w' := by
 have hu25 := Tryd.underlying25
 have hu43 := Tryd.underlying43
 have HR0_2 := Aside0.mk hr0_2
 have HC0_2 := Aside0.mk hc0_2
 clear hr0_2 hc0_2
 have HR1_2 := Aside0.mk hr1_2
 have HC1_2 := Aside0.mk hc1_2
 clear hr1_2 hc1_2
 have HB := Aside0.mk (Below.refl w.heap.size w)
 have H : (if a0_0.toList = a1_0.toList then (if a0_1 = a1_1 then (laws_lwDialback.j0 k ((l0_2.length : Int) != (l1_2.length : Int)) a0_0 a0_1 l0_2 a1_0 a1_1 l1_2) else (laws_lwDialback.j0 k true a0_0 a0_1 l0_2 a1_0 a1_1 l1_2)) else (laws_lwDialback.j0 k true a0_0 a0_1 l0_2 a1_0 a1_1 l1_2)) = some r := h
 clear h
 have HC3 := Aside0.mk H
 clear H
 go_enter Tryd.func11, Tryd.ntmps11
 go_upto_region 1 with (first | ((with_reducible refine gate_dst (N := 2) rfl ?_); (try (refine gate_guard (by rfl) ?_; dsimp only)); refine box_event ?hg (N := 2) ?hd (cs := #[.string a0_0, .int .i64 a0_1, .slice A0_2 l0_2.length c0_2]) (t := 25) ?hr ?_; (case hd => rfl); (case hg => rfl); (case hr => (go_simp; done)); intro gb501 hg w4 hbox hb; have BK501 := Aside0.mk (hbox); have GW501 := Aside0.mk ((zb1_14 : w.heap.size ≤ gb501)); have GE501 := GW501; replace HB := Aside0.mk (below_step zb0_14 hb); clear hb hbox hg) | ((with_reducible refine gate_dst (N := 3) rfl ?_); (try (refine gate_guard (by rfl) ?_; dsimp only)); refine box_event ?hg (N := 3) ?hd (cs := #[.string a1_0, .int .i64 a1_1, .slice A1_2 l1_2.length c1_2]) (t := 25) ?hr ?_; (case hd => rfl); (case hg => rfl); (case hr => (go_simp; done)); intro gb502 hg w5 hbox hb; have BK502 := Aside0.mk (hbox); have GW502 := Aside0.mk ((zb4_14 : w.heap.size ≤ gb502)); have GE502 := GW502; replace HB := Aside0.mk (below_step zb3_14 hb); have NB501_502 := Aside0.mk ((zb5_14 : gb501 ≠ gb502)); have NB502_501 := Aside0.mk ((zb6_14 : gb502 ≠ gb501)); replace BK501 := bkb BK501 hb; clear hb hbox hg))
 go_cut [26] (fun v26 wc => ∃ (kq : Nat) (x26_2 : Bool), v26 = .bool x26_2 ∧ Aside0 (laws_lwDialback.j0 kq x26_2 a0_0 a0_1 l0_2 a1_0 a1_1 l1_2 = some r) ∧ Aside0 (kq ≤ k) ∧ Aside0 (wc.heap[gb501]? = some (.cells #[.string a0_0, .int .i64 a0_1, (.slice A0_2 l0_2.length c0_2)] 25 (0, 0))) ∧ Aside0 (wc.heap[gb502]? = some (.cells #[.string a1_0, .int .i64 a1_1, (.slice A1_2 l1_2.length c1_2)] 25 (0, 0))) ∧ Aside0 (Below w.heap.size w wc))
 case first =>
  have H := HC3.out
  clear HC3
  have hnb8 := NB501_502.out
  have hnc8 := NB502_501.out
  obtain ⟨z0, z1, z2, z3, z4, z5⟩ := bz3 BK501.out
  obtain ⟨z0, z1, z2, z3, z4, z5⟩ := bz3 BK502.out
  by_cases c6 : a0_0.toList = a1_0.toList
  rotate_left
  ·
   rw [if_neg c6] at H
   have c6b0 : (a0_0.toList == a1_0.toList) = false := beq_eq_false_iff_ne.mpr c6
   have c6b1 : (a0_0.toList != a1_0.toList) = true := bne_iff_ne.mpr c6
   have H' := Aside0.mk H
   clear H
   (try rw [c6b0])
   (try rw [c6b1])
   go_wp2
   go_meet
   case rel => exact ⟨_, (true), zb7_14, H', ⟨by omega⟩, ⟨by exact BK501.out⟩, ⟨by exact BK502.out⟩, ⟨by repeat ((with_reducible (exact HB.out)))⟩⟩
  rw [if_pos c6] at H
  have c6b0 : (a0_0.toList == a1_0.toList) = true := beq_iff_eq.mpr c6
  have c6b1 : (a0_0.toList != a1_0.toList) = false := bne_eq_false_iff_eq.mpr c6
  clear c6
  (try rw [c6b0])
  (try rw [c6b1])
  by_cases c7 : a0_1 = a1_1
  rotate_left
  ·
   rw [if_neg c7] at H
   have c7b0 : (a0_1 == a1_1) = false := beq_eq_false_iff_ne.mpr c7
   have c7b1 : (a0_1 != a1_1) = true := bne_iff_ne.mpr c7
   have H' := Aside0.mk H
   clear H
   (try rw [c7b0])
   (try rw [c7b1])
   go_wp2
   go_meet
   case rel => exact ⟨_, (true), zb7_14, H', ⟨by omega⟩, ⟨by exact BK501.out⟩, ⟨by exact BK502.out⟩, ⟨by repeat ((with_reducible (exact HB.out)))⟩⟩
  rw [if_pos c7] at H
  have c7b0 : (a0_1 == a1_1) = true := beq_iff_eq.mpr c7
  have c7b1 : (a0_1 != a1_1) = false := bne_eq_false_iff_eq.mpr c7
  clear c7
  have H' := Aside0.mk H
  clear H
  (try rw [c7b0])
  (try rw [c7b1])
  go_wp2
  go_meet
  case rel => exact ⟨_, (((l0_2.length : Int) != (l1_2.length : Int))), zb7_14, H', ⟨by omega⟩, ⟨by exact BK501.out⟩, ⟨by exact BK502.out⟩, ⟨by repeat ((with_reducible (exact HB.out)))⟩⟩
 case rest =>
  clear HC3
  obtain ⟨kq, x26_2, rfl, HA, HJ2, BK501, BK502, HB⟩ := hcut
  cases kq with
  | zero => exact absurd HA.out (by simp [laws_lwDialback.j0])
  | succ kj2 =>
   have H := HA.out
   clear HA
   simp only [laws_lwDialback.j0] at H
   by_cases c17 : x26_2 = true
   · subst c17; rw [if_pos rfl] at H; obtain rfl := Option.some.inj H; go_wp2; go_ret; exact ⟨by rfl, by repeat ((with_reducible (exact HB.out)))⟩
   replace c17 := Bool.eq_false_iff.mpr c17
   subst c17
   rw [if_neg (show ¬ (false = true) by decide)] at H
   have H' := Aside0.mk H
   clear H
   go_wp2
   go_loopg [5] kj2 (fun kq v5 w' => ∃ (x5_2 : Int), v5 = .int .i64 x5_2 ∧ Aside0 (laws_lwDialback.l0 kq x5_2 a0_0 a0_1 l0_2 a1_0 a1_1 l1_2 = some r) ∧ Aside0 (kq ≤ kj2) ∧ Aside0 (w'.heap[gb501]? = some (.cells #[.string a0_0, .int .i64 a0_1, (.slice A0_2 l0_2.length c0_2)] 25 (0, 0))) ∧ Aside0 (w'.heap[gb502]? = some (.cells #[.string a1_0, .int .i64 a1_1, (.slice A1_2 l1_2.length c1_2)] 25 (0, 0))) ∧ Aside0 (Below w.heap.size w w'))
   case atStart => exact ⟨(0), zb7_14, H', ⟨Nat.le_refl _⟩, ⟨by exact BK501.out⟩, ⟨by exact BK502.out⟩, ⟨by repeat ((with_reducible (exact HB.out)))⟩⟩
   case round =>
    clear H'
    obtain ⟨x5_2, rfl, HA, HK2, BK501, BK502, HB⟩ := hrel
    cases gk with
    | zero => exact absurd HA.out (by simp [laws_lwDialback.l0])
    | succ k2 =>
     have H := HA.out
     clear HA
     simp only [laws_lwDialback.l0] at H
     have hnb22 := NB501_502.out
     have hnc22 := NB502_501.out
     obtain ⟨z0, z1, z2, z3, z4, z5⟩ := bz3 BK501.out
     by_cases c18 : x5_2 < (l0_2.length : Int)
     rotate_left
     · rw [if_neg c18] at H; have c18b0 := decide_eq_false c18; clear c18; obtain rfl := Option.some.inj H; (try rw [c18b0]); go_wp2; go_ret; exact ⟨by rfl, by repeat ((with_reducible (exact HB.out)))⟩
     rw [if_pos c18] at H
     have c18b0 := decide_eq_true c18
     clear c18
     (try rw [c18b0])
     by_cases c19 : 0 ≤ x5_2
     rotate_left
     · rw [if_neg c19] at H; exact absurd H (by simp)
     rw [if_pos c19] at H
     have c19b0 := decide_eq_true c19
     clear c19
     by_cases c20 : x5_2 < (l1_2.length : Int)
     rotate_left
     · rw [if_neg c20] at H; exact absurd H (by simp)
     rw [if_pos c20] at H
     have c20b0 := decide_eq_true c20
     clear c20
     have p503 : 0 ≤ (x5_2 : Int) := of_decide_eq_true zb8_14
     have q503 : x5_2 < (l0_2.length : Int) := of_decide_eq_true zb8_14
     obtain ⟨ad503, e503, hx503_0, hx503_1, hx503_2, hx503_3⟩ := at_T43 HR0_2.out x5_2 p503 q503
     cases e503
     replace hx503_0 := (HB.out.cell (World.block_lt_of_cell? w _ hx503_0)).trans hx503_0
     replace hx503_1 := (HB.out.cell (World.block_lt_of_cell? w _ hx503_1)).trans hx503_1
     replace hx503_2 := (HB.out.cell (World.block_lt_of_cell? w _ hx503_2)).trans hx503_2
     replace hx503_3 := (HB.out.cell (World.block_lt_of_cell? w _ hx503_3)).trans hx503_3
     replace p503 := eq_true p503
     replace q503 := eq_true q503
     obtain ⟨z0, z1, z2, z3, z4, z5⟩ := bz3 BK502.out
     have p504 : 0 ≤ (x5_2 : Int) := of_decide_eq_true zb8_14
     have q504 : x5_2 < (l1_2.length : Int) := of_decide_eq_true zb8_14
     obtain ⟨ad504, e504, hx504_0, hx504_1, hx504_2, hx504_3⟩ := at_T43 HR1_2.out x5_2 p504 q504
     cases e504
     replace hx504_0 := (HB.out.cell (World.block_lt_of_cell? w _ hx504_0)).trans hx504_0
     replace hx504_1 := (HB.out.cell (World.block_lt_of_cell? w _ hx504_1)).trans hx504_1
     replace hx504_2 := (HB.out.cell (World.block_lt_of_cell? w _ hx504_2)).trans hx504_2
     replace hx504_3 := (HB.out.cell (World.block_lt_of_cell? w _ hx504_3)).trans hx504_3
     replace p504 := eq_true p504
     replace q504 := eq_true q504
     by_cases c21 : (!((((rd_T43 l0_2 x5_2).f0).toList) == (((rd_T43 l1_2 x5_2).f0).toList)) || (!(((rd_T43 l0_2 x5_2).f1) == ((rd_T43 l1_2 x5_2).f1)) || (!(((rd_T43 l0_2 x5_2).f2) == ((rd_T43 l1_2 x5_2).f2)) || (!((((rd_T43 l0_2 x5_2).f3).toList) == (((rd_T43 l1_2 x5_2).f3).toList)))))) = true
     ·
      rw [if_pos c21] at H
      have c21b0 : (!((((rd_T43 l0_2 x5_2).f0).toList) == (((rd_T43 l1_2 x5_2).f0).toList)) || (!(((rd_T43 l0_2 x5_2).f1) == ((rd_T43 l1_2 x5_2).f1)) || (!(((rd_T43 l0_2 x5_2).f2) == ((rd_T43 l1_2 x5_2).f2)) || (!((((rd_T43 l0_2 x5_2).f3).toList) == (((rd_T43 l1_2 x5_2).f3).toList)))))) = true := c21
      clear c21
      obtain rfl := Option.some.inj H
      (try rw [c21b0])
      go_wp2
      repeat (go_quiet (fail); try go_wp2)
      go_ret
      exact ⟨by rfl, by repeat ((with_reducible first | exact HB.out | apply pw_below_drewN))⟩
     rw [if_neg c21] at H
     have c21b0 : (!((((rd_T43 l0_2 x5_2).f0).toList) == (((rd_T43 l1_2 x5_2).f0).toList)) || (!(((rd_T43 l0_2 x5_2).f1) == ((rd_T43 l1_2 x5_2).f1)) || (!(((rd_T43 l0_2 x5_2).f2) == ((rd_T43 l1_2 x5_2).f2)) || (!((((rd_T43 l0_2 x5_2).f3).toList) == (((rd_T43 l1_2 x5_2).f3).toList)))))) = false := by simpa using c21
     clear c21
     have H' := Aside0.mk H
     clear H
     (try rw [c21b0])
     go_wp2
     repeat (go_quiet (fail); try go_wp2)
     go_roundg k2
     case measure => have := HJ2.out; have := HK2.out; omega
     case rel => exact ⟨(wrap64 (x5_2 + 1)), zb7_14, H', ⟨by have := HJ2.out; have := HK2.out; omega⟩, ⟨by (with_reducible repeat ((refine blk_drewN ?_ _))); exact BK501.out⟩, ⟨by (with_reducible repeat ((refine blk_drewN ?_ _))); exact BK502.out⟩, ⟨by repeat ((with_reducible first | exact HB.out | apply pw_below_drewN))⟩⟩
/-! ### impl_DbTrusts: function 14 -/
def impl_DbTrusts.f (k : Nat) (a0_0 : ByteArray) (a0_1 : Int) (l0_2 : List (S43)) (a1 : ByteArray) (a2 : Int) : Option (Bool) := (impl_peerAt.f a0_0 a0_1 l0_2 a2).bind fun t506 => ((impl_DialbackRight.f k a0_0 a0_1 l0_2).bind fun t507 => (if t507 = true then (if t506 ≥ 0 then (if 0 ≤ t506 then (if t506 < (l0_2.length : Int) then (if ((rd_T43 l0_2 t506).f0).toList = a1.toList then (some (((rd_T43 l0_2 t506).f2) == 2)) else (some false)) else (none)) else (none)) else (some false)) else (some false)))
theorem impl_DbTrusts.mono : ∀ a0 a1 a2 a3 a4 k, LeO (impl_DbTrusts.f k a0 a1 a2 a3 a4) (impl_DbTrusts.f (k + 1) a0 a1 a2 a3 a4) := by
 intro a0 a1 a2 a3 a4 k
 unfold impl_DbTrusts.f
 repeat' first
   | (with_reducible exact impl_DialbackRight.mono _ _ _ _)
   | (with_reducible exact LeO.refl _)
   | (with_reducible exact LeO.none _)
   | (with_reducible refine LeO.ite ?_ ?_)
   | (with_reducible refine LeO.bind ?_ (fun _ => ?_))
   | exact impl_DialbackRight.mono _ _ _ _
   | exact LeO.none _
   | refine LeO.ite ?_ ?_
   | refine LeO.bind ?_ (fun _ => ?_)
set_option maxHeartbeats 8000000 in
set_option maxRecDepth 100000 in
theorem impl_DbTrusts.calls (k : Nat) (a0_0 : ByteArray) (a0_1 : Int) (A0_2 : Option Addr) (c0_2 : Nat) (l0_2 : List (S43)) (a1 : ByteArray) (a2 : Int) (r : Bool) (w : World) (hr0_2 : Kd.C k43 w A0_2 l0_2.length l0_2) (hc0_2 : l0_2.length ≤ c0_2) (h : impl_DbTrusts.f k a0_0 a0_1 l0_2 a1 a2 = some r) (hmx : MaxIs w) :
  Calls Tryd.prog 14 #[.agg #[.string a0_0, .int .i64 a0_1, .slice A0_2 l0_2.length c0_2], .string a1, .int .i64 a2] w fun e w' => e = .returned (.bool r) ∧ Below w.heap.size w w' := by
 have hu25 := Tryd.underlying25
 have HR0_2 := Aside0.mk hr0_2
 have HC0_2 := Aside0.mk hc0_2
 clear hr0_2 hc0_2
 have HB := Aside0.mk (Below.refl w.heap.size w)
 have H : ((impl_peerAt.f a0_0 a0_1 l0_2 a2).bind fun t506 => ((impl_DialbackRight.f k a0_0 a0_1 l0_2).bind fun t507 => (if t507 = true then (if t506 ≥ 0 then (if 0 ≤ t506 then (if t506 < (l0_2.length : Int) then (if ((rd_T43 l0_2 t506).f0).toList = a1.toList then (some (((rd_T43 l0_2 t506).f2) == 2)) else (some false)) else (none)) else (none)) else (some false)) else (some false)))) = some r := h
 clear h
 replace H := Option.bind_eq_some_iff.mp H
 obtain ⟨t506, A40, H⟩ := H
 (try dsimp -simprocs only at H)
 have A4 := Aside0.mk A40
 clear A40
 replace H := Option.bind_eq_some_iff.mp H
 obtain ⟨t507, A50, H⟩ := H
 (try dsimp -simprocs only at H)
 have A5 := Aside0.mk A50
 clear A50
 go_enter Tryd.func14, Tryd.ntmps14
 by_cases c6 : t507 = true
 rotate_left
 ·
  replace c6 := Bool.eq_false_iff.mpr c6
  subst c6
  rw [if_neg (show ¬ (false = true) by decide)] at H
  obtain rfl := Option.some.inj H
  go_wp2_with (first | ((with_reducible refine gate_dst (N := 3) rfl ?_); refine box_event ?hg (N := 3) ?hd (cs := #[.string a0_0, .int .i64 a0_1, .slice A0_2 l0_2.length c0_2]) (t := 25) ?hr ?_; (case hd => rfl); (case hg => rfl); (case hr => (go_simp; done)); intro gb505 hg w28 hbox hb; have BK505 := Aside0.mk (hbox); have GW505 := Aside0.mk ((zb1_14 : w.heap.size ≤ gb505)); have GE505 := GW505; replace HB := Aside0.mk (below_step zb0_14 hb); clear hb hbox hg; obtain ⟨z0, z1, z2, z3, z4, z5⟩ := bz3 BK505.out) | ((with_reducible refine gate_callee (f := 26) rfl ?_); refine goesL_ (some 10) rfl rfl Tryd.func26 (by kernel_rfl) rfl #[.agg #[.string a0_0, .int .i64 a0_1, .slice A0_2 l0_2.length c0_2], .int .i64 a2] rfl zb9_14 ?_; (with_reducible refine (impl_peerAt.calls a0_0 a0_1 _ _ l0_2 a2 t506 _ ?side1 ?side2 A4.out).mono ?_); (case side1 => repeat ((exact (Kd.C_below HR0_2.out HB.out)))); (case side2 => exact HC0_2.out); rintro e w30 ⟨rfl, hb⟩; refine ⟨_, rfl, ?_⟩; replace BK505 := bkb BK505 hb; replace HB := Aside0.mk (below_step zb11_14 hb); (try clear hb); obtain ⟨z0, z1, z2, z3, z4, z5⟩ := bz3 BK505.out) | ((with_reducible refine gate_callee (f := 18) rfl ?_); refine goesL_ (some 12) rfl rfl Tryd.func18 (by kernel_rfl) rfl #[.agg #[.string a0_0, .int .i64 a0_1, .slice A0_2 l0_2.length c0_2]] rfl zb9_14 ?_; (with_reducible refine (impl_DialbackRight.calls k a0_0 a0_1 _ _ l0_2 false _ ?side1 ?side2 A5.out zb12_14).mono ?_); (case side1 => repeat ((exact (Kd.C_below HR0_2.out HB.out)))); (case side2 => exact HC0_2.out); rintro e w32 ⟨rfl, hb⟩; refine ⟨_, rfl, ?_⟩; replace BK505 := bkb BK505 hb; replace HB := Aside0.mk (below_step zb11_14 hb); (try clear hb)))
  go_ret
  exact ⟨by rfl, by repeat ((with_reducible (exact HB.out)))⟩
 subst c6
 rw [if_pos rfl] at H
 by_cases c7 : t506 ≥ 0
 rotate_left
 ·
  rw [if_neg c7] at H
  have c7b0 : decide (0 ≤ t506) = false := decide_eq_false c7
  clear c7
  obtain rfl := Option.some.inj H
  (try rw [c7b0])
  go_wp2_with (first | ((with_reducible refine gate_dst (N := 3) rfl ?_); refine box_event ?hg (N := 3) ?hd (cs := #[.string a0_0, .int .i64 a0_1, .slice A0_2 l0_2.length c0_2]) (t := 25) ?hr ?_; (case hd => rfl); (case hg => rfl); (case hr => (go_simp; done)); intro gb505 hg w23 hbox hb; have BK505 := Aside0.mk (hbox); have GW505 := Aside0.mk ((zb1_14 : w.heap.size ≤ gb505)); have GE505 := GW505; replace HB := Aside0.mk (below_step zb0_14 hb); clear hb hbox hg; obtain ⟨z0, z1, z2, z3, z4, z5⟩ := bz3 BK505.out) | ((with_reducible refine gate_callee (f := 26) rfl ?_); refine goesL_ (some 10) rfl rfl Tryd.func26 (by kernel_rfl) rfl #[.agg #[.string a0_0, .int .i64 a0_1, .slice A0_2 l0_2.length c0_2], .int .i64 a2] rfl zb9_14 ?_; (with_reducible refine (impl_peerAt.calls a0_0 a0_1 _ _ l0_2 a2 t506 _ ?side1 ?side2 A4.out).mono ?_); (case side1 => repeat ((exact (Kd.C_below HR0_2.out HB.out)))); (case side2 => exact HC0_2.out); rintro e w25 ⟨rfl, hb⟩; refine ⟨_, rfl, ?_⟩; replace BK505 := bkb BK505 hb; replace HB := Aside0.mk (below_step zb11_14 hb); (try clear hb); obtain ⟨z0, z1, z2, z3, z4, z5⟩ := bz3 BK505.out) | ((with_reducible refine gate_callee (f := 18) rfl ?_); refine goesL_ (some 12) rfl rfl Tryd.func18 (by kernel_rfl) rfl #[.agg #[.string a0_0, .int .i64 a0_1, .slice A0_2 l0_2.length c0_2]] rfl zb9_14 ?_; (with_reducible refine (impl_DialbackRight.calls k a0_0 a0_1 _ _ l0_2 true _ ?side1 ?side2 A5.out zb12_14).mono ?_); (case side1 => repeat ((exact (Kd.C_below HR0_2.out HB.out)))); (case side2 => exact HC0_2.out); rintro e w27 ⟨rfl, hb⟩; refine ⟨_, rfl, ?_⟩; replace BK505 := bkb BK505 hb; replace HB := Aside0.mk (below_step zb11_14 hb); (try clear hb)))
  go_ret
  exact ⟨by rfl, by repeat ((with_reducible (exact HB.out)))⟩
 rw [if_pos c7] at H
 have c7b0 : decide (0 ≤ t506) = true := decide_eq_true c7
 clear c7
 (try rw [c7b0])
 by_cases c8 : 0 ≤ t506
 rotate_left
 · rw [if_neg c8] at H; exact absurd H (by simp)
 rw [if_pos c8] at H
 have c8b0 := decide_eq_true c8
 clear c8
 by_cases c9 : t506 < (l0_2.length : Int)
 rotate_left
 · rw [if_neg c9] at H; exact absurd H (by simp)
 rw [if_pos c9] at H
 have c9b0 := decide_eq_true c9
 clear c9
 by_cases c10 : ((rd_T43 l0_2 t506).f0).toList = a1.toList
 rotate_left
 ·
  rw [if_neg c10] at H
  have c10b0 : (((rd_T43 l0_2 t506).f0).toList == a1.toList) = false := beq_eq_false_iff_ne.mpr c10
  have c10b1 : (((rd_T43 l0_2 t506).f0).toList != a1.toList) = true := bne_iff_ne.mpr c10
  obtain rfl := Option.some.inj H
  (try rw [c10b0])
  (try rw [c10b1])
  go_wp2_with (first | ((with_reducible refine gate_dst (N := 3) rfl ?_); refine box_event ?hg (N := 3) ?hd (cs := #[.string a0_0, .int .i64 a0_1, .slice A0_2 l0_2.length c0_2]) (t := 25) ?hr ?_; (case hd => rfl); (case hg => rfl); (case hr => (go_simp; done)); intro gb505 hg w17 hbox hb; have BK505 := Aside0.mk (hbox); have GW505 := Aside0.mk ((zb1_14 : w.heap.size ≤ gb505)); have GE505 := GW505; replace HB := Aside0.mk (below_step zb0_14 hb); clear hb hbox hg; obtain ⟨z0, z1, z2, z3, z4, z5⟩ := bz3 BK505.out) | ((with_reducible refine gate_callee (f := 26) rfl ?_); refine goesL_ (some 10) rfl rfl Tryd.func26 (by kernel_rfl) rfl #[.agg #[.string a0_0, .int .i64 a0_1, .slice A0_2 l0_2.length c0_2], .int .i64 a2] rfl zb9_14 ?_; (with_reducible refine (impl_peerAt.calls a0_0 a0_1 _ _ l0_2 a2 t506 _ ?side1 ?side2 A4.out).mono ?_); (case side1 => repeat ((exact (Kd.C_below HR0_2.out HB.out)))); (case side2 => exact HC0_2.out); rintro e w19 ⟨rfl, hb⟩; refine ⟨_, rfl, ?_⟩; replace BK505 := bkb BK505 hb; replace HB := Aside0.mk (below_step zb11_14 hb); (try clear hb); obtain ⟨z0, z1, z2, z3, z4, z5⟩ := bz3 BK505.out) | ((with_reducible refine gate_callee (f := 18) rfl ?_); refine goesL_ (some 12) rfl rfl Tryd.func18 (by kernel_rfl) rfl #[.agg #[.string a0_0, .int .i64 a0_1, .slice A0_2 l0_2.length c0_2]] rfl zb9_14 ?_; (with_reducible refine (impl_DialbackRight.calls k a0_0 a0_1 _ _ l0_2 true _ ?side1 ?side2 A5.out zb12_14).mono ?_); (case side1 => repeat ((exact (Kd.C_below HR0_2.out HB.out)))); (case side2 => exact HC0_2.out); rintro e w21 ⟨rfl, hb⟩; refine ⟨_, rfl, ?_⟩; replace BK505 := bkb BK505 hb; replace HB := Aside0.mk (below_step zb11_14 hb); (try clear hb); obtain ⟨z0, z1, z2, z3, z4, z5⟩ := bz3 BK505.out; have p508 : 0 ≤ (t506 : Int) := of_decide_eq_true zb8_14; have q508 : t506 < (l0_2.length : Int) := of_decide_eq_true zb8_14; obtain ⟨ad508, e508, hx508_0, hx508_1, hx508_2, hx508_3⟩ := at_T43 HR0_2.out t506 p508 q508; cases e508; replace hx508_0 := (HB.out.cell (World.block_lt_of_cell? w _ hx508_0)).trans hx508_0; replace hx508_1 := (HB.out.cell (World.block_lt_of_cell? w _ hx508_1)).trans hx508_1; replace hx508_2 := (HB.out.cell (World.block_lt_of_cell? w _ hx508_2)).trans hx508_2; replace hx508_3 := (HB.out.cell (World.block_lt_of_cell? w _ hx508_3)).trans hx508_3; replace p508 := eq_true p508; replace q508 := eq_true q508))
  go_ret
  exact ⟨by rfl, by repeat ((with_reducible (exact HB.out)))⟩
 rw [if_pos c10] at H
 have c10b0 : (((rd_T43 l0_2 t506).f0).toList == a1.toList) = true := beq_iff_eq.mpr c10
 have c10b1 : (((rd_T43 l0_2 t506).f0).toList != a1.toList) = false := bne_eq_false_iff_eq.mpr c10
 clear c10
 obtain rfl := Option.some.inj H
 (try rw [c10b0])
 (try rw [c10b1])
 go_wp2_with (first | ((with_reducible refine gate_dst (N := 3) rfl ?_); refine box_event ?hg (N := 3) ?hd (cs := #[.string a0_0, .int .i64 a0_1, .slice A0_2 l0_2.length c0_2]) (t := 25) ?hr ?_; (case hd => rfl); (case hg => rfl); (case hr => (go_simp; done)); intro gb505 hg w11 hbox hb; have BK505 := Aside0.mk (hbox); have GW505 := Aside0.mk ((zb1_14 : w.heap.size ≤ gb505)); have GE505 := GW505; replace HB := Aside0.mk (below_step zb0_14 hb); clear hb hbox hg; obtain ⟨z0, z1, z2, z3, z4, z5⟩ := bz3 BK505.out) | ((with_reducible refine gate_callee (f := 26) rfl ?_); refine goesL_ (some 10) rfl rfl Tryd.func26 (by kernel_rfl) rfl #[.agg #[.string a0_0, .int .i64 a0_1, .slice A0_2 l0_2.length c0_2], .int .i64 a2] rfl zb9_14 ?_; (with_reducible refine (impl_peerAt.calls a0_0 a0_1 _ _ l0_2 a2 t506 _ ?side1 ?side2 A4.out).mono ?_); (case side1 => repeat ((exact (Kd.C_below HR0_2.out HB.out)))); (case side2 => exact HC0_2.out); rintro e w13 ⟨rfl, hb⟩; refine ⟨_, rfl, ?_⟩; replace BK505 := bkb BK505 hb; replace HB := Aside0.mk (below_step zb11_14 hb); (try clear hb); obtain ⟨z0, z1, z2, z3, z4, z5⟩ := bz3 BK505.out) | ((with_reducible refine gate_callee (f := 18) rfl ?_); refine goesL_ (some 12) rfl rfl Tryd.func18 (by kernel_rfl) rfl #[.agg #[.string a0_0, .int .i64 a0_1, .slice A0_2 l0_2.length c0_2]] rfl zb9_14 ?_; (with_reducible refine (impl_DialbackRight.calls k a0_0 a0_1 _ _ l0_2 true _ ?side1 ?side2 A5.out zb12_14).mono ?_); (case side1 => repeat ((exact (Kd.C_below HR0_2.out HB.out)))); (case side2 => exact HC0_2.out); rintro e w15 ⟨rfl, hb⟩; refine ⟨_, rfl, ?_⟩; replace BK505 := bkb BK505 hb; replace HB := Aside0.mk (below_step zb11_14 hb); (try clear hb); obtain ⟨z0, z1, z2, z3, z4, z5⟩ := bz3 BK505.out; have p508 : 0 ≤ (t506 : Int) := of_decide_eq_true zb8_14; have q508 : t506 < (l0_2.length : Int) := of_decide_eq_true zb8_14; obtain ⟨ad508, e508, hx508_0, hx508_1, hx508_2, hx508_3⟩ := at_T43 HR0_2.out t506 p508 q508; cases e508; replace hx508_0 := (HB.out.cell (World.block_lt_of_cell? w _ hx508_0)).trans hx508_0; replace hx508_1 := (HB.out.cell (World.block_lt_of_cell? w _ hx508_1)).trans hx508_1; replace hx508_2 := (HB.out.cell (World.block_lt_of_cell? w _ hx508_2)).trans hx508_2; replace hx508_3 := (HB.out.cell (World.block_lt_of_cell? w _ hx508_3)).trans hx508_3; replace p508 := eq_true p508; replace q508 := eq_true q508; have p509 : 0 ≤ (t506 : Int) := of_decide_eq_true zb8_14; have q509 : t506 < (l0_2.length : Int) := of_decide_eq_true zb8_14; obtain ⟨ad509, e509, hx509_0, hx509_1, hx509_2, hx509_3⟩ := at_T43 HR0_2.out t506 p509 q509; obtain rfl : ad508 = ad509 := (by injection e509); replace hx509_0 := (HB.out.cell (World.block_lt_of_cell? w _ hx509_0)).trans hx509_0; replace hx509_1 := (HB.out.cell (World.block_lt_of_cell? w _ hx509_1)).trans hx509_1; replace hx509_2 := (HB.out.cell (World.block_lt_of_cell? w _ hx509_2)).trans hx509_2; replace hx509_3 := (HB.out.cell (World.block_lt_of_cell? w _ hx509_3)).trans hx509_3; replace p509 := eq_true p509; replace q509 := eq_true q509))
 go_ret
 exact ⟨by rfl, by repeat ((with_reducible (exact HB.out)))⟩
end Go.Proofs.YtfijkimkdccioaaDoor.QFnDialback
