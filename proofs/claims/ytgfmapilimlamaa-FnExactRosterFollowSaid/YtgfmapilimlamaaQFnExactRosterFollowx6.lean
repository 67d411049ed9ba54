-- laid by this session's own runner (wip/print2.py): not a printed file
import Derived.Test.YtgfmapilimlamaaQFnExactRosterFollowx0
import Derived.Test.YtgfmapilimlamaaQFnExactRosterFollowx5
namespace Go.Proofs.Ytgfmapilimlamaa.QFnExactRosterFollow
open Go.RowKit Go.Proofs.YtgfmapilimlamaaW.PrintWords Go.Proofs.YtgfmapilimlamaaW.PrintLast Go.Proofs.YtgfmapilimlamaaW.PrintMore
attribute [local go_sem] max2_int min2_int max_two min_two max_three min_three max_four min_four   -- for this text's walks alone
set_option linter.unusedVariables false
set_option linter.unusedSimpArgs false

theorem zp_6 {P : Program} {md : Region.Mode} {ops : Array Oper} {Q : Exit → Act → World → Prop} {S : World → Prop} {ds : List Nat} {T : Bool × List (List Nat × List Nat)} {fuel : Nat} {l : Array Bool} {a : Act} {w : World} {oi : Oper} {v : Value} {a' : Act} (i : Nat) (N : Option Tmp) (l' : Array Bool) (hT : Aside0 (rtab md ops = T))
    (h : wpAnyLast P md ops Q S ds fuel l' a' w) (hc : anyT T l.toList l'.toList i = true := by kernel_rfl) (hi : ops[i]? = some oi := by rfl) (hN : oi.dst = N := by rfl) (hQ : ∀ c a w, Q (.panic c) (a.put oi.dst v) w → Q (.panic c) a w := by exact fun _ _ _ h => h)
    (hy : Yields P ops oi v a := by (refine Or.inl ⟨by rfl, ?_⟩; intro w'; go_simp; with_reducible rfl)) (ha : a.put N v = a' := by (simp only [Act.put, List.setIfInBounds_toArray, List.set_cons_zero, List.set_cons_succ, i64_w, i32_w]; rfl)) : wpAnyLast P md ops Q S ds (fuel + 1) l a w :=
  pure_ l' hi hN (any_of hT.out hc) hQ hy ha h
theorem zu_6 {P : Program} {md : Region.Mode} {ops : Array Oper} {Q : Exit → Act → World → Prop} {S : World → Prop} {ds : List Nat} {T : Bool × List (List Nat × List Nat)} {fuel : Nat} {l : Array Bool} {a : Act} {w : World} {oi : Oper} {a' : Act} (i : Nat) (N : Option Tmp) (l' : Array Bool) (hT : Aside0 (rtab md ops = T))
    (h : wpAnyLast P md ops Q S ds fuel l' a' w) (hc : anyT T l.toList l'.toList i = true := by kernel_rfl) (hi : ops[i]? = some oi := by rfl) (hN : oi.dst = N := by rfl) (hQ : ∀ c a w, Q (.panic c) (a.put oi.dst undef) w → Q (.panic c) a w := by exact fun _ _ _ h => h)
    (hy : Yields P ops oi undef a := by exact Or.inr ⟨by rfl, rfl⟩) (ha : a.put N undef = a' := by (simp only [Act.put, List.setIfInBounds_toArray, List.set_cons_zero, List.set_cons_succ, i64_w, i32_w]; rfl)) : wpAnyLast P md ops Q S ds (fuel + 1) l a w :=
  pure_ l' hi hN (any_of hT.out hc) hQ hy ha h
abbrev zm0_6 : Array Bool := #[false, false, false, false, false, false, false, false]
abbrev zm1_6 : Array Bool := #[true, false, false, false, false, false, false, false]
abbrev zm2_6 : Array Bool := #[true, true, false, false, false, false, false, false]
abbrev zm3_6 : Array Bool := #[true, true, true, false, false, false, false, false]
abbrev zm4_6 : Array Bool := #[true, true, true, true, false, false, false, false]
abbrev zm5_6 : Array Bool := #[true, true, true, true, false, true, false, false]
abbrev zm6_6 : Array Bool := #[true, true, true, true, true, true, false, false]
abbrev zm7_6 : Array Bool := #[true, true, true, true, true, true, true, false]
abbrev zm8_6 : Array Bool := #[true, true, true, true, true, true, true, true]
theorem zb0_6 {P : Prop} (h : P := by first | rfl | (simp; done) | (simp [*]; done)) : P := h
theorem zb1_6 {P : Prop} (h : P := by first | (with_reducible assumption) | assumption) : P := h
theorem zb2_6 {P : Prop} (h : P := by (try simp only [List.map_toArray, List.map_cons, List.map_nil]); first | done | rfl | (simp only [List.length_drop, List.length_take]; rfl)) : P := h
theorem zb3_6 {P : Prop} (h : P := by repeat (first | (with_reducible first | exact HB.out | apply below_alloc | apply pw_below_drewN | apply below_drew1) | exact HB.out)) : P := h
/-! ### laws_heldItemS: function 10 -/
def laws_heldItemS.l0 : Nat → List (S33) → Int → Int → Option (Int)
 | 0, _, _, _ => none
 | k + 1, x0, x1, x5 => if x5 < (x0.length : Int) then (if 0 ≤ x5 then ((laws_markText.f k x1).bind fun t249 => (if ((rd_T33 x0 x5).f0).toList = t249.toList then ((laws_markText.f k (wrap64 (x1 + 1))).bind fun t251 => (if ((rd_T33 x0 x5).f1).toList = t251.toList then ((laws_markText.f k (wrap64 ((wrap64 (x1 + 1)) + 1))).bind fun t253 => (if ((rd_T33 x0 x5).f2).toList = t253.toList then (if ((rd_T33 x0 x5).f3) = (wrap64 ((wrap64 ((wrap64 (x1 + 1)) + 1)) + 1)) then (if (((rd_T33 x0 x5).f4) != ((Int.tmod (wrap64 ((wrap64 ((wrap64 ((wrap64 (x1 + 1)) + 1)) + 1)) + 1)) 3) == 0)) = true then (some (-1)) else (laws_heldItemS.l0 k x0 (wrap64 ((wrap64 ((wrap64 ((wrap64 ((wrap64 (x1 + 1)) + 1)) + 1)) + 1)) + 1)) (wrap64 (x5 + 1)))) else (some (-1))) else (some (-1)))) else (some (-1)))) else (some (-1)))) else (none)) else (some x1)
def laws_heldItemS.f (k : Nat) (l0 : List (S33)) (a1 : Int) : Option (Int) := laws_heldItemS.l0 k l0 a1 0
theorem laws_heldItemS.mono_l : ∀ k, (∀ y0 y1 y2, LeO (laws_heldItemS.l0 k y0 y1 y2) (laws_heldItemS.l0 (k + 1) y0 y1 y2))
 | 0 => fun _ _ _ r h => by simp [laws_heldItemS.l0] at h
 | k + 1 => by
  have ih0 := laws_heldItemS.mono_l k
  ·
   intro y0 y1 y2
   unfold laws_heldItemS.l0
   repeat' first
   | (with_reducible exact ih0 _ _ _)
   | (with_reducible exact laws_markText.mono _ _)
   | (with_reducible exact LeO.refl _)
   | (with_reducible exact LeO.none _)
   | (with_reducible refine LeO.ite ?_ ?_)
   | (with_reducible refine LeO.bind ?_ (fun _ => ?_))
   | exact ih0 _ _ _
   | exact laws_markText.mono _ _
   | exact LeO.none _
   | refine LeO.ite ?_ ?_
   | refine LeO.bind ?_ (fun _ => ?_)
theorem laws_heldItemS.mono : ∀ a0 a1 k, LeO (laws_heldItemS.f k a0 a1) (laws_heldItemS.f (k + 1) a0 a1) := by
 intro a0 a1 k
 have ih0 := laws_heldItemS.mono_l k
 unfold laws_heldItemS.f
 repeat' first
   | (with_reducible exact ih0 _ _ _)
   | (with_reducible exact laws_markText.mono _ _)
   | (with_reducible exact LeO.refl _)
   | (with_reducible exact LeO.none _)
   | (with_reducible refine LeO.ite ?_ ?_)
   | (with_reducible refine LeO.bind ?_ (fun _ => ?_))
   | exact ih0 _ _ _
   | exact laws_markText.mono _ _
   | exact LeO.none _
   | refine LeO.ite ?_ ?_
   | refine LeO.bind ?_ (fun _ => ?_)
def laws_heldItemS.T4 : Bool × List (List Nat × List Nat) := (true, [([], []), ([], []), ([0, 1], [0, 1]), ([2], [2]), ([3], [3]), ([], []), ([5], [5]), ([4, 6], [4, 6])])
def laws_heldItemS.B4 : List Nat := [0, 0, 3, 7, 15, 0, 32, 127]
theorem laws_heldItemS.tab4 : rtab .any (opsOf Try.f10 4) = laws_heldItemS.T4 := by kernel_rfl
theorem laws_heldItemS.bits4 : waitsOk laws_heldItemS.T4.2 laws_heldItemS.B4 = true := by kernel_rfl
def laws_heldItemS.T7 : Bool × List (List Nat × List Nat) := (true, [([], []), ([], []), ([0, 1], [0, 1]), ([2], [2]), ([3], [3]), ([], []), ([5], [5]), ([4, 6], [4, 6])])
def laws_heldItemS.B7 : List Nat := [0, 0, 3, 7, 15, 0, 32, 127]
theorem laws_heldItemS.tab7 : rtab .any (opsOf Try.f10 7) = laws_heldItemS.T7 := by kernel_rfl
theorem laws_heldItemS.bits7 : waitsOk laws_heldItemS.T7.2 laws_heldItemS.B7 = true := by kernel_rfl
def laws_heldItemS.T10 : Bool × List (List Nat × List Nat) := (true, [([], []), ([], []), ([0, 1], [0, 1]), ([2], [2]), ([3], [3]), ([], []), ([5], [5]), ([4, 6], [4, 6])])
def laws_heldItemS.B10 : List Nat := [0, 0, 3, 7, 15, 0, 32, 127]
theorem laws_heldItemS.tab10 : rtab .any (opsOf Try.f10 10) = laws_heldItemS.T10 := by kernel_rfl
theorem laws_heldItemS.bits10 : waitsOk laws_heldItemS.T10.2 laws_heldItemS.B10 = true := by kernel_rfl
set_option maxHeartbeats 8000000 in
set_option maxRecDepth 100000 in
theorem laws_heldItemS.calls (k : Nat) (A0 : Option Addr) (c0 : Nat) (l0 : List (S33)) (a1 : Int) (r : Int) (w : World) (hr0 : Kd.C k33 w A0 l0.length l0) (hc0 : l0.length ≤ c0) (h : laws_heldItemS.f k l0 a1 = some r) :
  Calls Try.prog 10 #[.slice A0 l0.length c0, .int .i64 a1] w fun e w' => e = .returned (.int .i64 r) ∧ Below w.heap.size w w' := by
 have HR0 := Aside0.mk hr0
 have HC0 := Aside0.mk hc0
 clear hr0 hc0
 have HB := Aside0.mk (Below.refl w.heap.size w)
 have H : (laws_heldItemS.l0 k l0 a1 0) = some r := h
 clear h
 have H' := Aside0.mk H
 clear H
 go_enter Try.func10, Try.ntmps10
 go_wp2
 go_loopg [1, 5] k (fun kq v1 v5 w' => ∃ (x1_1 : Int) (x5_1 : Int), v1 = .int .i64 x1_1 ∧ v5 = .int .i64 x5_1 ∧ Aside0 (laws_heldItemS.l0 kq l0 x1_1 x5_1 = some r) ∧ Aside0 (kq ≤ k) ∧ Aside0 (Below w.heap.size w w'))
 case atStart => exact ⟨(a1), (0), zb0_6, zb0_6, H', ⟨Nat.le_refl _⟩, ⟨by repeat (first | (with_reducible first | exact HB.out | apply below_alloc | apply pw_below_drewN | apply below_drew1) | exact HB.out)⟩⟩
 case round =>
  clear H'
  try clear c1
  try clear p2
  obtain ⟨x1_1, x5_1, rfl, rfl, HA, HK1, HB⟩ := hrel
  cases gk with
  | zero => exact absurd HA.out (by simp [laws_heldItemS.l0])
  | succ k1 =>
   have H := HA.out
   clear HA
   simp only [laws_heldItemS.l0] at H
   by_cases c3 : x5_1 < (l0.length : Int)
   ·
    rw [if_pos c3] at H
    have c3b0 : decide (x5_1 < (l0.length : Int)) = true := decide_eq_true c3
    clear c3
    by_cases c4 : 0 ≤ x5_1
    ·
     rw [if_pos c4] at H
     have c4b0 : decide (0 ≤ x5_1) = true := decide_eq_true c4
     clear c4
     replace H := Option.bind_eq_some_iff.mp H
     obtain ⟨t249, A50, H⟩ := H
     replace H : (if ((rd_T33 l0 x5_1).f0).toList = t249.toList then ((laws_markText.f k1 (wrap64 (x1_1 + 1))).bind fun t251 => (if ((rd_T33 l0 x5_1).f1).toList = t251.toList then ((laws_markText.f k1 (wrap64 ((wrap64 (x1_1 + 1)) + 1))).bind fun t253 => (if ((rd_T33 l0 x5_1).f2).toList = t253.toList then (if ((rd_T33 l0 x5_1).f3) = (wrap64 ((wrap64 ((wrap64 (x1_1 + 1)) + 1)) + 1)) then (if (((rd_T33 l0 x5_1).f4) != ((Int.tmod (wrap64 ((wrap64 ((wrap64 ((wrap64 (x1_1 + 1)) + 1)) + 1)) + 1)) 3) == 0)) = true then (some (-1)) else (laws_heldItemS.l0 k1 l0 (wrap64 ((wrap64 ((wrap64 ((wrap64 ((wrap64 (x1_1 + 1)) + 1)) + 1)) + 1)) + 1)) (wrap64 (x5_1 + 1)))) else (some (-1))) else (some (-1)))) else (some (-1)))) else (some (-1))) = some r := H
     have A5 := Aside0.mk A50
     clear A50
     by_cases c6 : ((rd_T33 l0 x5_1).f0).toList = t249.toList
     ·
      rw [if_pos c6] at H
      have c6b0 : (((rd_T33 l0 x5_1).f0).toList == t249.toList) = true := beq_iff_eq.mpr c6
      have c6b1 : (((rd_T33 l0 x5_1).f0).toList != t249.toList) = false := bne_eq_false_iff_eq.mpr c6
      clear c6
      replace H := Option.bind_eq_some_iff.mp H
      obtain ⟨t251, A70, H⟩ := H
      replace H : (if ((rd_T33 l0 x5_1).f1).toList = t251.toList then ((laws_markText.f k1 (wrap64 ((wrap64 (x1_1 + 1)) + 1))).bind fun t253 => (if ((rd_T33 l0 x5_1).f2).toList = t253.toList then (if ((rd_T33 l0 x5_1).f3) = (wrap64 ((wrap64 ((wrap64 (x1_1 + 1)) + 1)) + 1)) then (if (((rd_T33 l0 x5_1).f4) != ((Int.tmod (wrap64 ((wrap64 ((wrap64 ((wrap64 (x1_1 + 1)) + 1)) + 1)) + 1)) 3) == 0)) = true then (some (-1)) else (laws_heldItemS.l0 k1 l0 (wrap64 ((wrap64 ((wrap64 ((wrap64 ((wrap64 (x1_1 + 1)) + 1)) + 1)) + 1)) + 1)) (wrap64 (x5_1 + 1)))) else (some (-1))) else (some (-1)))) else (some (-1))) = some r := H
      have A7 := Aside0.mk A70
      clear A70
      by_cases c8 : ((rd_T33 l0 x5_1).f1).toList = t251.toList
      ·
       rw [if_pos c8] at H
       have c8b0 : (((rd_T33 l0 x5_1).f1).toList == t251.toList) = true := beq_iff_eq.mpr c8
       have c8b1 : (((rd_T33 l0 x5_1).f1).toList != t251.toList) = false := bne_eq_false_iff_eq.mpr c8
       clear c8
       replace H := Option.bind_eq_some_iff.mp H
       obtain ⟨t253, A90, H⟩ := H
       replace H : (if ((rd_T33 l0 x5_1).f2).toList = t253.toList then (if ((rd_T33 l0 x5_1).f3) = (wrap64 ((wrap64 ((wrap64 (x1_1 + 1)) + 1)) + 1)) then (if (((rd_T33 l0 x5_1).f4) != ((Int.tmod (wrap64 ((wrap64 ((wrap64 ((wrap64 (x1_1 + 1)) + 1)) + 1)) + 1)) 3) == 0)) = true then (some (-1)) else (laws_heldItemS.l0 k1 l0 (wrap64 ((wrap64 ((wrap64 ((wrap64 ((wrap64 (x1_1 + 1)) + 1)) + 1)) + 1)) + 1)) (wrap64 (x5_1 + 1)))) else (some (-1))) else (some (-1))) = some r := H
       have A9 := Aside0.mk A90
       clear A90
       by_cases c10 : ((rd_T33 l0 x5_1).f2).toList = t253.toList
       ·
        rw [if_pos c10] at H
        have c10b0 : (((rd_T33 l0 x5_1).f2).toList == t253.toList) = true := beq_iff_eq.mpr c10
        have c10b1 : (((rd_T33 l0 x5_1).f2).toList != t253.toList) = false := bne_eq_false_iff_eq.mpr c10
        clear c10
        by_cases c11 : ((rd_T33 l0 x5_1).f3) = (wrap64 ((wrap64 ((wrap64 (x1_1 + 1)) + 1)) + 1))
        ·
         rw [if_pos c11] at H
         have c11b0 : (((rd_T33 l0 x5_1).f3) == (wrap64 ((wrap64 ((wrap64 (x1_1 + 1)) + 1)) + 1))) = true := beq_iff_eq.mpr c11
         have c11b1 : (((rd_T33 l0 x5_1).f3) != (wrap64 ((wrap64 ((wrap64 (x1_1 + 1)) + 1)) + 1))) = false := bne_eq_false_iff_eq.mpr c11
         clear c11
         by_cases c12 : (((rd_T33 l0 x5_1).f4) != ((Int.tmod (wrap64 ((wrap64 ((wrap64 ((wrap64 (x1_1 + 1)) + 1)) + 1)) + 1)) 3) == 0)) = true
         ·
          rw [if_pos c12] at H
          have c12b0 : (((rd_T33 l0 x5_1).f4) != ((Int.tmod (wrap64 ((wrap64 ((wrap64 ((wrap64 (x1_1 + 1)) + 1)) + 1)) + 1)) 3) == 0)) = true := c12
          (try (have c12b1 : decide (((rd_T33 l0 x5_1).f4) = ((Int.tmod (wrap64 ((wrap64 ((wrap64 ((wrap64 (x1_1 + 1)) + 1)) + 1)) + 1)) 3) == 0)) = false := by simpa using c12))
          (try (have c12b2 : (((rd_T33 l0 x5_1).f4) == ((Int.tmod (wrap64 ((wrap64 ((wrap64 ((wrap64 (x1_1 + 1)) + 1)) + 1)) + 1)) 3) == 0)) = false := by simpa using c12))
          (try (have c12b3 : ¬ (((rd_T33 l0 x5_1).f4) = ((Int.tmod (wrap64 ((wrap64 ((wrap64 ((wrap64 (x1_1 + 1)) + 1)) + 1)) + 1)) 3) == 0)) := by simpa using c12))
          clear c12
          obtain rfl := Option.some.inj H
          try go_wp2
          have n0_ := Aside0.mk (below_drew1 HB.out)
          clear HB
          have HB := n0_
          clear n0_
          have p248 : 0 ≤ (x5_1 : Int) := of_decide_eq_true zb1_6
          have q248 : x5_1 < (l0.length : Int) := of_decide_eq_true zb1_6
          obtain ⟨ad248, e248, hx248_0, hx248_1, hx248_2, hx248_3, hx248_4⟩ := at_T33 HR0.out x5_1 p248 q248
          have hw248_4 := hx248_4
          have hw248_3 := hx248_3
          have hw248_2 := hx248_2
          have hw248_1 := hx248_1
          have hw248_0 := hx248_0
          cases e248
          replace hx248_0 := (HB.out.cell (World.block_lt_of_cell? w _ hx248_0)).trans hx248_0
          replace hx248_1 := (HB.out.cell (World.block_lt_of_cell? w _ hx248_1)).trans hx248_1
          replace hx248_2 := (HB.out.cell (World.block_lt_of_cell? w _ hx248_2)).trans hx248_2
          replace hx248_3 := (HB.out.cell (World.block_lt_of_cell? w _ hx248_3)).trans hx248_3
          replace hx248_4 := (HB.out.cell (World.block_lt_of_cell? w _ hx248_4)).trans hx248_4
          replace p248 := eq_true p248
          replace q248 := eq_true q248
          refine start_ (n := 8) (S := fun w' => w'.cell? (ad248.add ((x5_1).toNat * 5)) = some (.string ((rd_T33 l0 x5_1).f0)) ∧ w'.cell? ⟨(ad248.add ((x5_1).toNat * 5)).block, (ad248.add ((x5_1).toNat * 5)).off + 1, none⟩ = some (.string ((rd_T33 l0 x5_1).f1)) ∧ w'.cell? ⟨(ad248.add ((x5_1).toNat * 5)).block, (ad248.add ((x5_1).toNat * 5)).off + 2, none⟩ = some (.string ((rd_T33 l0 x5_1).f2)) ∧ w'.cell? ⟨(ad248.add ((x5_1).toNat * 5)).block, (ad248.add ((x5_1).toNat * 5)).off + 3, none⟩ = some (.int .i64 ((rd_T33 l0 x5_1).f3)) ∧ w'.cell? ⟨(ad248.add ((x5_1).toNat * 5)).block, (ad248.add ((x5_1).toNat * 5)).off + 4, none⟩ = some (.bool ((rd_T33 l0 x5_1).f4))) (ds := []) zm0_6 (by kernel_rfl) rfl rfl ⟨((HB.out.cell (World.block_lt_of_cell? w _ hw248_0)).trans hw248_0), ((HB.out.cell (World.block_lt_of_cell? w _ hw248_1)).trans hw248_1), ((HB.out.cell (World.block_lt_of_cell? w _ hw248_2)).trans hw248_2), ((HB.out.cell (World.block_lt_of_cell? w _ hw248_3)).trans hw248_3), ((HB.out.cell (World.block_lt_of_cell? w _ hw248_4)).trans hw248_4)⟩ (fun hHeld => ?_); refine with_tabW laws_heldItemS.tab4 laws_heldItemS.bits4 (fun HT_ HW_ => ?_)
          generalize wr.drew = w13 at HB hx248_0 hx248_1 hx248_2 hx248_3 hx248_4 hHeld ⊢
          refine zp_6 0 (some 12) zm1_6 HT_ ?_
          refine zp_6 1 (some 13) zm2_6 HT_ ?_
          refine zp_6 2 (some 14) zm3_6 HT_ ?_
          refine zp_6 3 (some 15) zm4_6 HT_ ?_
          refine zp_6 5 (some 17) zm5_6 HT_ ?_
          refine take_ (i := 4) (N := some 16) (v := ?_) (a' := ?_) zm6_6 rfl rfl (take_ofW HT_.out HW_.out (by kernel_rfl)) (fun _ _ _ h => h) (Or.inl ⟨by rfl, ?_⟩) hHeld ?_ ?_
          rotate_left
          ·
           rintro w' ⟨s0, s1, s2, s3, s4⟩
           go_simp
           with_reducible rfl
          rotate_left
          ·
           simp only [Act.put, List.setIfInBounds_toArray, List.set_cons_zero, List.set_cons_succ, i64_w, i32_w]
           rfl
          refine one_ (i := 6) (N := some 18) zm7_6 rfl rfl (one_of HT_.out (by kernel_rfl)) (by decide) (fun K hK => ?_)
          refine goes_ Try.func20 (by kernel_rfl) rfl #[.int .i64 x1_1] (by rfl) rfl rfl zb2_6 ?_
          with_reducible refine (laws_markText.calls k1 x1_1 t249 _ A5.out).mono ?_
          rintro e w14 ⟨rfl, hb⟩
          refine ⟨_, rfl, ?_⟩
          have n0_ := Aside0.mk (below_step zb3_6 hb)
          clear HB
          have HB := n0_
          clear n0_
          (try clear hb)
          (try clear hb2)
          (try clear hk)
          (try clear hi)
          refine hK.out _ _ ⟨((HB.out.cell (World.block_lt_of_cell? w _ hw248_0)).trans hw248_0), ((HB.out.cell (World.block_lt_of_cell? w _ hw248_1)).trans hw248_1), ((HB.out.cell (World.block_lt_of_cell? w _ hw248_2)).trans hw248_2), ((HB.out.cell (World.block_lt_of_cell? w _ hw248_3)).trans hw248_3), ((HB.out.cell (World.block_lt_of_cell? w _ hw248_4)).trans hw248_4)⟩ (fun hHeld => ?_)
          clear hK K
          refine norm_ (a' := ?_) ?_ ?_
          rotate_left
          ·
           show Act.put _ (some 18) _ = _
           simp only [Act.put, List.setIfInBounds_toArray, List.set_cons_zero, List.set_cons_succ, i64_w, i32_w]
           rfl
          refine zp_6 7 (some 19) zm8_6 HT_ ?_
          refine done_ (done_of HT_.out (by kernel_rfl)) ?_
          try go_wp2
          have n0_ := Aside0.mk (below_drew1 HB.out)
          clear HB
          have HB := n0_
          clear n0_
          have p250 : 0 ≤ (x5_1 : Int) := of_decide_eq_true zb1_6
          have q250 : x5_1 < (l0.length : Int) := of_decide_eq_true zb1_6
          obtain ⟨ad250, e250, hx250_0, hx250_1, hx250_2, hx250_3, hx250_4⟩ := at_T33 HR0.out x5_1 p250 q250
          have hw250_4 := hx250_4
          have hw250_3 := hx250_3
          have hw250_2 := hx250_2
          have hw250_1 := hx250_1
          have hw250_0 := hx250_0
          obtain rfl : ad248 = ad250 := (by injection e250)
          replace hx250_0 := (HB.out.cell (World.block_lt_of_cell? w _ hx250_0)).trans hx250_0
          replace hx250_1 := (HB.out.cell (World.block_lt_of_cell? w _ hx250_1)).trans hx250_1
          replace hx250_2 := (HB.out.cell (World.block_lt_of_cell? w _ hx250_2)).trans hx250_2
          replace hx250_3 := (HB.out.cell (World.block_lt_of_cell? w _ hx250_3)).trans hx250_3
          replace hx250_4 := (HB.out.cell (World.block_lt_of_cell? w _ hx250_4)).trans hx250_4
          replace p250 := eq_true p250
          replace q250 := eq_true q250
          refine start_ (n := 8) (S := fun w' => w'.cell? (ad248.add ((x5_1).toNat * 5)) = some (.string ((rd_T33 l0 x5_1).f0)) ∧ w'.cell? ⟨(ad248.add ((x5_1).toNat * 5)).block, (ad248.add ((x5_1).toNat * 5)).off + 1, none⟩ = some (.string ((rd_T33 l0 x5_1).f1)) ∧ w'.cell? ⟨(ad248.add ((x5_1).toNat * 5)).block, (ad248.add ((x5_1).toNat * 5)).off + 2, none⟩ = some (.string ((rd_T33 l0 x5_1).f2)) ∧ w'.cell? ⟨(ad248.add ((x5_1).toNat * 5)).block, (ad248.add ((x5_1).toNat * 5)).off + 3, none⟩ = some (.int .i64 ((rd_T33 l0 x5_1).f3)) ∧ w'.cell? ⟨(ad248.add ((x5_1).toNat * 5)).block, (ad248.add ((x5_1).toNat * 5)).off + 4, none⟩ = some (.bool ((rd_T33 l0 x5_1).f4))) (ds := []) zm0_6 (by kernel_rfl) rfl rfl ⟨((HB.out.cell (World.block_lt_of_cell? w _ hw250_0)).trans hw250_0), ((HB.out.cell (World.block_lt_of_cell? w _ hw250_1)).trans hw250_1), ((HB.out.cell (World.block_lt_of_cell? w _ hw250_2)).trans hw250_2), ((HB.out.cell (World.block_lt_of_cell? w _ hw250_3)).trans hw250_3), ((HB.out.cell (World.block_lt_of_cell? w _ hw250_4)).trans hw250_4)⟩ (fun hHeld => ?_); refine with_tabW laws_heldItemS.tab7 laws_heldItemS.bits7 (fun HT_ HW_ => ?_)
          generalize w14.drew = w15 at HB hx250_0 hx250_1 hx250_2 hx250_3 hx250_4 hHeld ⊢
          refine zp_6 0 (some 22) zm1_6 HT_ ?_
          refine zp_6 1 (some 23) zm2_6 HT_ ?_
          refine zp_6 2 (some 24) zm3_6 HT_ ?_
          refine zp_6 3 (some 25) zm4_6 HT_ ?_
          refine zp_6 5 (some 27) zm5_6 HT_ ?_
          refine take_ (i := 4) (N := some 26) (v := ?_) (a' := ?_) zm6_6 rfl rfl (take_ofW HT_.out HW_.out (by kernel_rfl)) (fun _ _ _ h => h) (Or.inl ⟨by rfl, ?_⟩) hHeld ?_ ?_
          rotate_left
          ·
           rintro w' ⟨s0, s1, s2, s3, s4⟩
           go_simp
           with_reducible rfl
          rotate_left
          ·
           simp only [Act.put, List.setIfInBounds_toArray, List.set_cons_zero, List.set_cons_succ, i64_w, i32_w]
           rfl
          refine one_ (i := 6) (N := some 28) zm7_6 rfl rfl (one_of HT_.out (by kernel_rfl)) (by decide) (fun K hK => ?_)
          refine goes_ Try.func20 (by kernel_rfl) rfl #[.int .i64 (wrap64 (x1_1 + 1))] (by rfl) rfl rfl zb2_6 ?_
          with_reducible refine (laws_markText.calls k1 (wrap64 (x1_1 + 1)) t251 _ A7.out).mono ?_
          rintro e w16 ⟨rfl, hb⟩
          refine ⟨_, rfl, ?_⟩
          have n0_ := Aside0.mk (below_step zb3_6 hb)
          clear HB
          have HB := n0_
          clear n0_
          (try clear hb)
          (try clear hb2)
          (try clear hk)
          (try clear hi)
          refine hK.out _ _ ⟨((HB.out.cell (World.block_lt_of_cell? w _ hw250_0)).trans hw250_0), ((HB.out.cell (World.block_lt_of_cell? w _ hw250_1)).trans hw250_1), ((HB.out.cell (World.block_lt_of_cell? w _ hw250_2)).trans hw250_2), ((HB.out.cell (World.block_lt_of_cell? w _ hw250_3)).trans hw250_3), ((HB.out.cell (World.block_lt_of_cell? w _ hw250_4)).trans hw250_4)⟩ (fun hHeld => ?_)
          clear hK K
          refine norm_ (a' := ?_) ?_ ?_
          rotate_left
          ·
           show Act.put _ (some 28) _ = _
           simp only [Act.put, List.setIfInBounds_toArray, List.set_cons_zero, List.set_cons_succ, i64_w, i32_w]
           rfl
          refine zp_6 7 (some 29) zm8_6 HT_ ?_
          refine done_ (done_of HT_.out (by kernel_rfl)) ?_
          try go_wp2
          have n0_ := Aside0.mk (below_drew1 HB.out)
          clear HB
          have HB := n0_
          clear n0_
          have p252 : 0 ≤ (x5_1 : Int) := of_decide_eq_true zb1_6
          have q252 : x5_1 < (l0.length : Int) := of_decide_eq_true zb1_6
          obtain ⟨ad252, e252, hx252_0, hx252_1, hx252_2, hx252_3, hx252_4⟩ := at_T33 HR0.out x5_1 p252 q252
          have hw252_4 := hx252_4
          have hw252_3 := hx252_3
          have hw252_2 := hx252_2
          have hw252_1 := hx252_1
          have hw252_0 := hx252_0
          obtain rfl : ad248 = ad252 := (by injection e252)
          replace hx252_0 := (HB.out.cell (World.block_lt_of_cell? w _ hx252_0)).trans hx252_0
          replace hx252_1 := (HB.out.cell (World.block_lt_of_cell? w _ hx252_1)).trans hx252_1
          replace hx252_2 := (HB.out.cell (World.block_lt_of_cell? w _ hx252_2)).trans hx252_2
          replace hx252_3 := (HB.out.cell (World.block_lt_of_cell? w _ hx252_3)).trans hx252_3
          replace hx252_4 := (HB.out.cell (World.block_lt_of_cell? w _ hx252_4)).trans hx252_4
          replace p252 := eq_true p252
          replace q252 := eq_true q252
          refine start_ (n := 8) (S := fun w' => w'.cell? (ad248.add ((x5_1).toNat * 5)) = some (.string ((rd_T33 l0 x5_1).f0)) ∧ w'.cell? ⟨(ad248.add ((x5_1).toNat * 5)).block, (ad248.add ((x5_1).toNat * 5)).off + 1, none⟩ = some (.string ((rd_T33 l0 x5_1).f1)) ∧ w'.cell? ⟨(ad248.add ((x5_1).toNat * 5)).block, (ad248.add ((x5_1).toNat * 5)).off + 2, none⟩ = some (.string ((rd_T33 l0 x5_1).f2)) ∧ w'.cell? ⟨(ad248.add ((x5_1).toNat * 5)).block, (ad248.add ((x5_1).toNat * 5)).off + 3, none⟩ = some (.int .i64 ((rd_T33 l0 x5_1).f3)) ∧ w'.cell? ⟨(ad248.add ((x5_1).toNat * 5)).block, (ad248.add ((x5_1).toNat * 5)).off + 4, none⟩ = some (.bool ((rd_T33 l0 x5_1).f4))) (ds := []) zm0_6 (by kernel_rfl) rfl rfl ⟨((HB.out.cell (World.block_lt_of_cell? w _ hw252_0)).trans hw252_0), ((HB.out.cell (World.block_lt_of_cell? w _ hw252_1)).trans hw252_1), ((HB.out.cell (World.block_lt_of_cell? w _ hw252_2)).trans hw252_2), ((HB.out.cell (World.block_lt_of_cell? w _ hw252_3)).trans hw252_3), ((HB.out.cell (World.block_lt_of_cell? w _ hw252_4)).trans hw252_4)⟩ (fun hHeld => ?_); refine with_tabW laws_heldItemS.tab10 laws_heldItemS.bits10 (fun HT_ HW_ => ?_)
          generalize w16.drew = w17 at HB hx252_0 hx252_1 hx252_2 hx252_3 hx252_4 hHeld ⊢
          refine zp_6 0 (some 32) zm1_6 HT_ ?_
          refine zp_6 1 (some 33) zm2_6 HT_ ?_
          refine zp_6 2 (some 34) zm3_6 HT_ ?_
          refine zp_6 3 (some 35) zm4_6 HT_ ?_
          refine zp_6 5 (some 37) zm5_6 HT_ ?_
          refine take_ (i := 4) (N := some 36) (v := ?_) (a' := ?_) zm6_6 rfl rfl (take_ofW HT_.out HW_.out (by kernel_rfl)) (fun _ _ _ h => h) (Or.inl ⟨by rfl, ?_⟩) hHeld ?_ ?_
          rotate_left
          ·
           rintro w' ⟨s0, s1, s2, s3, s4⟩
           go_simp
           with_reducible rfl
          rotate_left
          ·
           simp only [Act.put, List.setIfInBounds_toArray, List.set_cons_zero, List.set_cons_succ, i64_w, i32_w]
           rfl
          refine one_ (i := 6) (N := some 38) zm7_6 rfl rfl (one_of HT_.out (by kernel_rfl)) (by decide) (fun K hK => ?_)
          refine goes_ Try.func20 (by kernel_rfl) rfl #[.int .i64 (wrap64 ((wrap64 (x1_1 + 1)) + 1))] (by rfl) rfl rfl zb2_6 ?_
          with_reducible refine (laws_markText.calls k1 (wrap64 ((wrap64 (x1_1 + 1)) + 1)) t253 _ A9.out).mono ?_
          rintro e w18 ⟨rfl, hb⟩
          refine ⟨_, rfl, ?_⟩
          have n0_ := Aside0.mk (below_step zb3_6 hb)
          clear HB
          have HB := n0_
          clear n0_
          (try clear hb)
          (try clear hb2)
          (try clear hk)
          (try clear hi)
          refine hK.out _ _ ⟨((HB.out.cell (World.block_lt_of_cell? w _ hw252_0)).trans hw252_0), ((HB.out.cell (World.block_lt_of_cell? w _ hw252_1)).trans hw252_1), ((HB.out.cell (World.block_lt_of_cell? w _ hw252_2)).trans hw252_2), ((HB.out.cell (World.block_lt_of_cell? w _ hw252_3)).trans hw252_3), ((HB.out.cell (World.block_lt_of_cell? w _ hw252_4)).trans hw252_4)⟩ (fun hHeld => ?_)
          clear hK K
          refine norm_ (a' := ?_) ?_ ?_
          rotate_left
          ·
           show Act.put _ (some 38) _ = _
           simp only [Act.put, List.setIfInBounds_toArray, List.set_cons_zero, List.set_cons_succ, i64_w, i32_w]
           rfl
          refine zp_6 7 (some 39) zm8_6 HT_ ?_
          refine done_ (done_of HT_.out (by kernel_rfl)) ?_
          have p254 : 0 ≤ (x5_1 : Int) := of_decide_eq_true zb1_6
          have q254 : x5_1 < (l0.length : Int) := of_decide_eq_true zb1_6
          obtain ⟨ad254, e254, hx254_0, hx254_1, hx254_2, hx254_3, hx254_4⟩ := at_T33 HR0.out x5_1 p254 q254
          obtain rfl : ad248 = ad254 := (by injection e254)
          replace hx254_0 := (HB.out.cell (World.block_lt_of_cell? w _ hx254_0)).trans hx254_0
          replace hx254_1 := (HB.out.cell (World.block_lt_of_cell? w _ hx254_1)).trans hx254_1
          replace hx254_2 := (HB.out.cell (World.block_lt_of_cell? w _ hx254_2)).trans hx254_2
          replace hx254_3 := (HB.out.cell (World.block_lt_of_cell? w _ hx254_3)).trans hx254_3
          replace hx254_4 := (HB.out.cell (World.block_lt_of_cell? w _ hx254_4)).trans hx254_4
          replace p254 := eq_true p254
          replace q254 := eq_true q254
          have p255 : 0 ≤ (x5_1 : Int) := of_decide_eq_true zb1_6
          have q255 : x5_1 < (l0.length : Int) := of_decide_eq_true zb1_6
          obtain ⟨ad255, e255, hx255_0, hx255_1, hx255_2, hx255_3, hx255_4⟩ := at_T33 HR0.out x5_1 p255 q255
          obtain rfl : ad248 = ad255 := (by injection e255)
          replace hx255_0 := (HB.out.cell (World.block_lt_of_cell? w _ hx255_0)).trans hx255_0
          replace hx255_1 := (HB.out.cell (World.block_lt_of_cell? w _ hx255_1)).trans hx255_1
          replace hx255_2 := (HB.out.cell (World.block_lt_of_cell? w _ hx255_2)).trans hx255_2
          replace hx255_3 := (HB.out.cell (World.block_lt_of_cell? w _ hx255_3)).trans hx255_3
          replace hx255_4 := (HB.out.cell (World.block_lt_of_cell? w _ hx255_4)).trans hx255_4
          replace p255 := eq_true p255
          replace q255 := eq_true q255
          try go_wp2
          go_ret
          exact ⟨by first | rfl | (simp [errW_none, errW_some] <;> rfl) | (simp [*, errW_none, errW_some] <;> rfl), by repeat (first | (with_reducible first | exact HB.out | apply below_alloc | apply pw_below_drewN | apply below_drew1) | exact HB.out)⟩
         ·
          rw [if_neg c12] at H
          have c12b0 : (((rd_T33 l0 x5_1).f4) != ((Int.tmod (wrap64 ((wrap64 ((wrap64 ((wrap64 (x1_1 + 1)) + 1)) + 1)) + 1)) 3) == 0)) = false := by simpa using c12
          (try (have c12b1 : decide (((rd_T33 l0 x5_1).f4) = ((Int.tmod (wrap64 ((wrap64 ((wrap64 ((wrap64 (x1_1 + 1)) + 1)) + 1)) + 1)) 3) == 0)) = true := by simpa using c12))
          (try (have c12b2 : (((rd_T33 l0 x5_1).f4) == ((Int.tmod (wrap64 ((wrap64 ((wrap64 ((wrap64 (x1_1 + 1)) + 1)) + 1)) + 1)) 3) == 0)) = true := by simpa using c12))
          clear c12
          have H' := Aside0.mk H
          clear H
          try go_wp2
          have n0_ := Aside0.mk (below_drew1 HB.out)
          clear HB
          have HB := n0_
          clear n0_
          have p248 : 0 ≤ (x5_1 : Int) := of_decide_eq_true zb1_6
          have q248 : x5_1 < (l0.length : Int) := of_decide_eq_true zb1_6
          obtain ⟨ad248, e248, hx248_0, hx248_1, hx248_2, hx248_3, hx248_4⟩ := at_T33 HR0.out x5_1 p248 q248
          have hw248_4 := hx248_4
          have hw248_3 := hx248_3
          have hw248_2 := hx248_2
          have hw248_1 := hx248_1
          have hw248_0 := hx248_0
          cases e248
          replace hx248_0 := (HB.out.cell (World.block_lt_of_cell? w _ hx248_0)).trans hx248_0
          replace hx248_1 := (HB.out.cell (World.block_lt_of_cell? w _ hx248_1)).trans hx248_1
          replace hx248_2 := (HB.out.cell (World.block_lt_of_cell? w _ hx248_2)).trans hx248_2
          replace hx248_3 := (HB.out.cell (World.block_lt_of_cell? w _ hx248_3)).trans hx248_3
          replace hx248_4 := (HB.out.cell (World.block_lt_of_cell? w _ hx248_4)).trans hx248_4
          replace p248 := eq_true p248
          replace q248 := eq_true q248
          refine start_ (n := 8) (S := fun w' => w'.cell? (ad248.add ((x5_1).toNat * 5)) = some (.string ((rd_T33 l0 x5_1).f0)) ∧ w'.cell? ⟨(ad248.add ((x5_1).toNat * 5)).block, (ad248.add ((x5_1).toNat * 5)).off + 1, none⟩ = some (.string ((rd_T33 l0 x5_1).f1)) ∧ w'.cell? ⟨(ad248.add ((x5_1).toNat * 5)).block, (ad248.add ((x5_1).toNat * 5)).off + 2, none⟩ = some (.string ((rd_T33 l0 x5_1).f2)) ∧ w'.cell? ⟨(ad248.add ((x5_1).toNat * 5)).block, (ad248.add ((x5_1).toNat * 5)).off + 3, none⟩ = some (.int .i64 ((rd_T33 l0 x5_1).f3)) ∧ w'.cell? ⟨(ad248.add ((x5_1).toNat * 5)).block, (ad248.add ((x5_1).toNat * 5)).off + 4, none⟩ = some (.bool ((rd_T33 l0 x5_1).f4))) (ds := []) zm0_6 (by kernel_rfl) rfl rfl ⟨((HB.out.cell (World.block_lt_of_cell? w _ hw248_0)).trans hw248_0), ((HB.out.cell (World.block_lt_of_cell? w _ hw248_1)).trans hw248_1), ((HB.out.cell (World.block_lt_of_cell? w _ hw248_2)).trans hw248_2), ((HB.out.cell (World.block_lt_of_cell? w _ hw248_3)).trans hw248_3), ((HB.out.cell (World.block_lt_of_cell? w _ hw248_4)).trans hw248_4)⟩ (fun hHeld => ?_); refine with_tabW laws_heldItemS.tab4 laws_heldItemS.bits4 (fun HT_ HW_ => ?_)
          generalize wr.drew = w19 at HB hx248_0 hx248_1 hx248_2 hx248_3 hx248_4 hHeld ⊢
          refine zp_6 0 (some 12) zm1_6 HT_ ?_
          refine zp_6 1 (some 13) zm2_6 HT_ ?_
          refine zp_6 2 (some 14) zm3_6 HT_ ?_
          refine zp_6 3 (some 15) zm4_6 HT_ ?_
          refine zp_6 5 (some 17) zm5_6 HT_ ?_
          refine take_ (i := 4) (N := some 16) (v := ?_) (a' := ?_) zm6_6 rfl rfl (take_ofW HT_.out HW_.out (by kernel_rfl)) (fun _ _ _ h => h) (Or.inl ⟨by rfl, ?_⟩) hHeld ?_ ?_
          rotate_left
          ·
           rintro w' ⟨s0, s1, s2, s3, s4⟩
           go_simp
           with_reducible rfl
          rotate_left
          ·
           simp only [Act.put, List.setIfInBounds_toArray, List.set_cons_zero, List.set_cons_succ, i64_w, i32_w]
           rfl
          refine one_ (i := 6) (N := some 18) zm7_6 rfl rfl (one_of HT_.out (by kernel_rfl)) (by decide) (fun K hK => ?_)
          refine goes_ Try.func20 (by kernel_rfl) rfl #[.int .i64 x1_1] (by rfl) rfl rfl zb2_6 ?_
          with_reducible refine (laws_markText.calls k1 x1_1 t249 _ A5.out).mono ?_
          rintro e w20 ⟨rfl, hb⟩
          refine ⟨_, rfl, ?_⟩
          have n0_ := Aside0.mk (below_step zb3_6 hb)
          clear HB
          have HB := n0_
          clear n0_
          (try clear hb)
          (try clear hb2)
          (try clear hk)
          (try clear hi)
          refine hK.out _ _ ⟨((HB.out.cell (World.block_lt_of_cell? w _ hw248_0)).trans hw248_0), ((HB.out.cell (World.block_lt_of_cell? w _ hw248_1)).trans hw248_1), ((HB.out.cell (World.block_lt_of_cell? w _ hw248_2)).trans hw248_2), ((HB.out.cell (World.block_lt_of_cell? w _ hw248_3)).trans hw248_3), ((HB.out.cell (World.block_lt_of_cell? w _ hw248_4)).trans hw248_4)⟩ (fun hHeld => ?_)
          clear hK K
          refine norm_ (a' := ?_) ?_ ?_
          rotate_left
          ·
           show Act.put _ (some 18) _ = _
           simp only [Act.put, List.setIfInBounds_toArray, List.set_cons_zero, List.set_cons_succ, i64_w, i32_w]
           rfl
          refine zp_6 7 (some 19) zm8_6 HT_ ?_
          refine done_ (done_of HT_.out (by kernel_rfl)) ?_
          try go_wp2
          have n0_ := Aside0.mk (below_drew1 HB.out)
          clear HB
          have HB := n0_
          clear n0_
          have p250 : 0 ≤ (x5_1 : Int) := of_decide_eq_true zb1_6
          have q250 : x5_1 < (l0.length : Int) := of_decide_eq_true zb1_6
          obtain ⟨ad250, e250, hx250_0, hx250_1, hx250_2, hx250_3, hx250_4⟩ := at_T33 HR0.out x5_1 p250 q250
          have hw250_4 := hx250_4
          have hw250_3 := hx250_3
          have hw250_2 := hx250_2
          have hw250_1 := hx250_1
          have hw250_0 := hx250_0
          obtain rfl : ad248 = ad250 := (by injection e250)
          replace hx250_0 := (HB.out.cell (World.block_lt_of_cell? w _ hx250_0)).trans hx250_0
          replace hx250_1 := (HB.out.cell (World.block_lt_of_cell? w _ hx250_1)).trans hx250_1
          replace hx250_2 := (HB.out.cell (World.block_lt_of_cell? w _ hx250_2)).trans hx250_2
          replace hx250_3 := (HB.out.cell (World.block_lt_of_cell? w _ hx250_3)).trans hx250_3
          replace hx250_4 := (HB.out.cell (World.block_lt_of_cell? w _ hx250_4)).trans hx250_4
          replace p250 := eq_true p250
          replace q250 := eq_true q250
          refine start_ (n := 8) (S := fun w' => w'.cell? (ad248.add ((x5_1).toNat * 5)) = some (.string ((rd_T33 l0 x5_1).f0)) ∧ w'.cell? ⟨(ad248.add ((x5_1).toNat * 5)).block, (ad248.add ((x5_1).toNat * 5)).off + 1, none⟩ = some (.string ((rd_T33 l0 x5_1).f1)) ∧ w'.cell? ⟨(ad248.add ((x5_1).toNat * 5)).block, (ad248.add ((x5_1).toNat * 5)).off + 2, none⟩ = some (.string ((rd_T33 l0 x5_1).f2)) ∧ w'.cell? ⟨(ad248.add ((x5_1).toNat * 5)).block, (ad248.add ((x5_1).toNat * 5)).off + 3, none⟩ = some (.int .i64 ((rd_T33 l0 x5_1).f3)) ∧ w'.cell? ⟨(ad248.add ((x5_1).toNat * 5)).block, (ad248.add ((x5_1).toNat * 5)).off + 4, none⟩ = some (.bool ((rd_T33 l0 x5_1).f4))) (ds := []) zm0_6 (by kernel_rfl) rfl rfl ⟨((HB.out.cell (World.block_lt_of_cell? w _ hw250_0)).trans hw250_0), ((HB.out.cell (World.block_lt_of_cell? w _ hw250_1)).trans hw250_1), ((HB.out.cell (World.block_lt_of_cell? w _ hw250_2)).trans hw250_2), ((HB.out.cell (World.block_lt_of_cell? w _ hw250_3)).trans hw250_3), ((HB.out.cell (World.block_lt_of_cell? w _ hw250_4)).trans hw250_4)⟩ (fun hHeld => ?_); refine with_tabW laws_heldItemS.tab7 laws_heldItemS.bits7 (fun HT_ HW_ => ?_)
          generalize w20.drew = w21 at HB hx250_0 hx250_1 hx250_2 hx250_3 hx250_4 hHeld ⊢
          refine zp_6 0 (some 22) zm1_6 HT_ ?_
          refine zp_6 1 (some 23) zm2_6 HT_ ?_
          refine zp_6 2 (some 24) zm3_6 HT_ ?_
          refine zp_6 3 (some 25) zm4_6 HT_ ?_
          refine zp_6 5 (some 27) zm5_6 HT_ ?_
          refine take_ (i := 4) (N := some 26) (v := ?_) (a' := ?_) zm6_6 rfl rfl (take_ofW HT_.out HW_.out (by kernel_rfl)) (fun _ _ _ h => h) (Or.inl ⟨by rfl, ?_⟩) hHeld ?_ ?_
          rotate_left
          ·
           rintro w' ⟨s0, s1, s2, s3, s4⟩
           go_simp
           with_reducible rfl
          rotate_left
          ·
           simp only [Act.put, List.setIfInBounds_toArray, List.set_cons_zero, List.set_cons_succ, i64_w, i32_w]
           rfl
          refine one_ (i := 6) (N := some 28) zm7_6 rfl rfl (one_of HT_.out (by kernel_rfl)) (by decide) (fun K hK => ?_)
          refine goes_ Try.func20 (by kernel_rfl) rfl #[.int .i64 (wrap64 (x1_1 + 1))] (by rfl) rfl rfl zb2_6 ?_
          with_reducible refine (laws_markText.calls k1 (wrap64 (x1_1 + 1)) t251 _ A7.out).mono ?_
          rintro e w22 ⟨rfl, hb⟩
          refine ⟨_, rfl, ?_⟩
          have n0_ := Aside0.mk (below_step zb3_6 hb)
          clear HB
          have HB := n0_
          clear n0_
          (try clear hb)
          (try clear hb2)
          (try clear hk)
          (try clear hi)
          refine hK.out _ _ ⟨((HB.out.cell (World.block_lt_of_cell? w _ hw250_0)).trans hw250_0), ((HB.out.cell (World.block_lt_of_cell? w _ hw250_1)).trans hw250_1), ((HB.out.cell (World.block_lt_of_cell? w _ hw250_2)).trans hw250_2), ((HB.out.cell (World.block_lt_of_cell? w _ hw250_3)).trans hw250_3), ((HB.out.cell (World.block_lt_of_cell? w _ hw250_4)).trans hw250_4)⟩ (fun hHeld => ?_)
          clear hK K
          refine norm_ (a' := ?_) ?_ ?_
          rotate_left
          ·
           show Act.put _ (some 28) _ = _
           simp only [Act.put, List.setIfInBounds_toArray, List.set_cons_zero, List.set_cons_succ, i64_w, i32_w]
           rfl
          refine zp_6 7 (some 29) zm8_6 HT_ ?_
          refine done_ (done_of HT_.out (by kernel_rfl)) ?_
          try go_wp2
          have n0_ := Aside0.mk (below_drew1 HB.out)
          clear HB
          have HB := n0_
          clear n0_
          have p252 : 0 ≤ (x5_1 : Int) := of_decide_eq_true zb1_6
          have q252 : x5_1 < (l0.length : Int) := of_decide_eq_true zb1_6
          obtain ⟨ad252, e252, hx252_0, hx252_1, hx252_2, hx252_3, hx252_4⟩ := at_T33 HR0.out x5_1 p252 q252
          have hw252_4 := hx252_4
          have hw252_3 := hx252_3
          have hw252_2 := hx252_2
          have hw252_1 := hx252_1
          have hw252_0 := hx252_0
          obtain rfl : ad248 = ad252 := (by injection e252)
          replace hx252_0 := (HB.out.cell (World.block_lt_of_cell? w _ hx252_0)).trans hx252_0
          replace hx252_1 := (HB.out.cell (World.block_lt_of_cell? w _ hx252_1)).trans hx252_1
          replace hx252_2 := (HB.out.cell (World.block_lt_of_cell? w _ hx252_2)).trans hx252_2
          replace hx252_3 := (HB.out.cell (World.block_lt_of_cell? w _ hx252_3)).trans hx252_3
          replace hx252_4 := (HB.out.cell (World.block_lt_of_cell? w _ hx252_4)).trans hx252_4
          replace p252 := eq_true p252
          replace q252 := eq_true q252
          refine start_ (n := 8) (S := fun w' => w'.cell? (ad248.add ((x5_1).toNat * 5)) = some (.string ((rd_T33 l0 x5_1).f0)) ∧ w'.cell? ⟨(ad248.add ((x5_1).toNat * 5)).block, (ad248.add ((x5_1).toNat * 5)).off + 1, none⟩ = some (.string ((rd_T33 l0 x5_1).f1)) ∧ w'.cell? ⟨(ad248.add ((x5_1).toNat * 5)).block, (ad248.add ((x5_1).toNat * 5)).off + 2, none⟩ = some (.string ((rd_T33 l0 x5_1).f2)) ∧ w'.cell? ⟨(ad248.add ((x5_1).toNat * 5)).block, (ad248.add ((x5_1).toNat * 5)).off + 3, none⟩ = some (.int .i64 ((rd_T33 l0 x5_1).f3)) ∧ w'.cell? ⟨(ad248.add ((x5_1).toNat * 5)).block, (ad248.add ((x5_1).toNat * 5)).off + 4, none⟩ = some (.bool ((rd_T33 l0 x5_1).f4))) (ds := []) zm0_6 (by kernel_rfl) rfl rfl ⟨((HB.out.cell (World.block_lt_of_cell? w _ hw252_0)).trans hw252_0), ((HB.out.cell (World.block_lt_of_cell? w _ hw252_1)).trans hw252_1), ((HB.out.cell (World.block_lt_of_cell? w _ hw252_2)).trans hw252_2), ((HB.out.cell (World.block_lt_of_cell? w _ hw252_3)).trans hw252_3), ((HB.out.cell (World.block_lt_of_cell? w _ hw252_4)).trans hw252_4)⟩ (fun hHeld => ?_); refine with_tabW laws_heldItemS.tab10 laws_heldItemS.bits10 (fun HT_ HW_ => ?_)
          generalize w22.drew = w23 at HB hx252_0 hx252_1 hx252_2 hx252_3 hx252_4 hHeld ⊢
          refine zp_6 0 (some 32) zm1_6 HT_ ?_
          refine zp_6 1 (some 33) zm2_6 HT_ ?_
          refine zp_6 2 (some 34) zm3_6 HT_ ?_
          refine zp_6 3 (some 35) zm4_6 HT_ ?_
          refine zp_6 5 (some 37) zm5_6 HT_ ?_
          refine take_ (i := 4) (N := some 36) (v := ?_) (a' := ?_) zm6_6 rfl rfl (take_ofW HT_.out HW_.out (by kernel_rfl)) (fun _ _ _ h => h) (Or.inl ⟨by rfl, ?_⟩) hHeld ?_ ?_
          rotate_left
          ·
           rintro w' ⟨s0, s1, s2, s3, s4⟩
           go_simp
           with_reducible rfl
          rotate_left
          ·
           simp only [Act.put, List.setIfInBounds_toArray, List.set_cons_zero, List.set_cons_succ, i64_w, i32_w]
           rfl
          refine one_ (i := 6) (N := some 38) zm7_6 rfl rfl (one_of HT_.out (by kernel_rfl)) (by decide) (fun K hK => ?_)
          refine goes_ Try.func20 (by kernel_rfl) rfl #[.int .i64 (wrap64 ((wrap64 (x1_1 + 1)) + 1))] (by rfl) rfl rfl zb2_6 ?_
          with_reducible refine (laws_markText.calls k1 (wrap64 ((wrap64 (x1_1 + 1)) + 1)) t253 _ A9.out).mono ?_
          rintro e w24 ⟨rfl, hb⟩
          refine ⟨_, rfl, ?_⟩
          have n0_ := Aside0.mk (below_step zb3_6 hb)
          clear HB
          have HB := n0_
          clear n0_
          (try clear hb)
          (try clear hb2)
          (try clear hk)
          (try clear hi)
          refine hK.out _ _ ⟨((HB.out.cell (World.block_lt_of_cell? w _ hw252_0)).trans hw252_0), ((HB.out.cell (World.block_lt_of_cell? w _ hw252_1)).trans hw252_1), ((HB.out.cell (World.block_lt_of_cell? w _ hw252_2)).trans hw252_2), ((HB.out.cell (World.block_lt_of_cell? w _ hw252_3)).trans hw252_3), ((HB.out.cell (World.block_lt_of_cell? w _ hw252_4)).trans hw252_4)⟩ (fun hHeld => ?_)
          clear hK K
          refine norm_ (a' := ?_) ?_ ?_
          rotate_left
          ·
           show Act.put _ (some 38) _ = _
           simp only [Act.put, List.setIfInBounds_toArray, List.set_cons_zero, List.set_cons_succ, i64_w, i32_w]
           rfl
          refine zp_6 7 (some 39) zm8_6 HT_ ?_
          refine done_ (done_of HT_.out (by kernel_rfl)) ?_
          have p254 : 0 ≤ (x5_1 : Int) := of_decide_eq_true zb1_6
          have q254 : x5_1 < (l0.length : Int) := of_decide_eq_true zb1_6
          obtain ⟨ad254, e254, hx254_0, hx254_1, hx254_2, hx254_3, hx254_4⟩ := at_T33 HR0.out x5_1 p254 q254
          obtain rfl : ad248 = ad254 := (by injection e254)
          replace hx254_0 := (HB.out.cell (World.block_lt_of_cell? w _ hx254_0)).trans hx254_0
          replace hx254_1 := (HB.out.cell (World.block_lt_of_cell? w _ hx254_1)).trans hx254_1
          replace hx254_2 := (HB.out.cell (World.block_lt_of_cell? w _ hx254_2)).trans hx254_2
          replace hx254_3 := (HB.out.cell (World.block_lt_of_cell? w _ hx254_3)).trans hx254_3
          replace hx254_4 := (HB.out.cell (World.block_lt_of_cell? w _ hx254_4)).trans hx254_4
          replace p254 := eq_true p254
          replace q254 := eq_true q254
          have p255 : 0 ≤ (x5_1 : Int) := of_decide_eq_true zb1_6
          have q255 : x5_1 < (l0.length : Int) := of_decide_eq_true zb1_6
          obtain ⟨ad255, e255, hx255_0, hx255_1, hx255_2, hx255_3, hx255_4⟩ := at_T33 HR0.out x5_1 p255 q255
          obtain rfl : ad248 = ad255 := (by injection e255)
          replace hx255_0 := (HB.out.cell (World.block_lt_of_cell? w _ hx255_0)).trans hx255_0
          replace hx255_1 := (HB.out.cell (World.block_lt_of_cell? w _ hx255_1)).trans hx255_1
          replace hx255_2 := (HB.out.cell (World.block_lt_of_cell? w _ hx255_2)).trans hx255_2
          replace hx255_3 := (HB.out.cell (World.block_lt_of_cell? w _ hx255_3)).trans hx255_3
          replace hx255_4 := (HB.out.cell (World.block_lt_of_cell? w _ hx255_4)).trans hx255_4
          replace p255 := eq_true p255
          replace q255 := eq_true q255
          try go_wp2
          go_roundg k1
          case measure => have := HK1.out; omega
          case rel => exact ⟨(wrap64 ((wrap64 ((wrap64 ((wrap64 ((wrap64 (x1_1 + 1)) + 1)) + 1)) + 1)) + 1)), (wrap64 (x5_1 + 1)), zb0_6, zb0_6, H', ⟨by have := HK1.out; omega⟩, ⟨by repeat (first | (with_reducible first | exact HB.out | apply below_alloc | apply pw_below_drewN | apply below_drew1) | exact HB.out)⟩⟩
        ·
         rw [if_neg c11] at H
         have c11b0 : (((rd_T33 l0 x5_1).f3) == (wrap64 ((wrap64 ((wrap64 (x1_1 + 1)) + 1)) + 1))) = false := beq_eq_false_iff_ne.mpr c11
         have c11b1 : (((rd_T33 l0 x5_1).f3) != (wrap64 ((wrap64 ((wrap64 (x1_1 + 1)) + 1)) + 1))) = true := bne_iff_ne.mpr c11
         obtain rfl := Option.some.inj H
         try go_wp2
         have n0_ := Aside0.mk (below_drew1 HB.out)
         clear HB
         have HB := n0_
         clear n0_
         have p248 : 0 ≤ (x5_1 : Int) := of_decide_eq_true zb1_6
         have q248 : x5_1 < (l0.length : Int) := of_decide_eq_true zb1_6
         obtain ⟨ad248, e248, hx248_0, hx248_1, hx248_2, hx248_3, hx248_4⟩ := at_T33 HR0.out x5_1 p248 q248
         have hw248_4 := hx248_4
         have hw248_3 := hx248_3
         have hw248_2 := hx248_2
         have hw248_1 := hx248_1
         have hw248_0 := hx248_0
         cases e248
         replace hx248_0 := (HB.out.cell (World.block_lt_of_cell? w _ hx248_0)).trans hx248_0
         replace hx248_1 := (HB.out.cell (World.block_lt_of_cell? w _ hx248_1)).trans hx248_1
         replace hx248_2 := (HB.out.cell (World.block_lt_of_cell? w _ hx248_2)).trans hx248_2
         replace hx248_3 := (HB.out.cell (World.block_lt_of_cell? w _ hx248_3)).trans hx248_3
         replace hx248_4 := (HB.out.cell (World.block_lt_of_cell? w _ hx248_4)).trans hx248_4
         replace p248 := eq_true p248
         replace q248 := eq_true q248
         refine start_ (n := 8) (S := fun w' => w'.cell? (ad248.add ((x5_1).toNat * 5)) = some (.string ((rd_T33 l0 x5_1).f0)) ∧ w'.cell? ⟨(ad248.add ((x5_1).toNat * 5)).block, (ad248.add ((x5_1).toNat * 5)).off + 1, none⟩ = some (.string ((rd_T33 l0 x5_1).f1)) ∧ w'.cell? ⟨(ad248.add ((x5_1).toNat * 5)).block, (ad248.add ((x5_1).toNat * 5)).off + 2, none⟩ = some (.string ((rd_T33 l0 x5_1).f2)) ∧ w'.cell? ⟨(ad248.add ((x5_1).toNat * 5)).block, (ad248.add ((x5_1).toNat * 5)).off + 3, none⟩ = some (.int .i64 ((rd_T33 l0 x5_1).f3)) ∧ w'.cell? ⟨(ad248.add ((x5_1).toNat * 5)).block, (ad248.add ((x5_1).toNat * 5)).off + 4, none⟩ = some (.bool ((rd_T33 l0 x5_1).f4))) (ds := []) zm0_6 (by kernel_rfl) rfl rfl ⟨((HB.out.cell (World.block_lt_of_cell? w _ hw248_0)).trans hw248_0), ((HB.out.cell (World.block_lt_of_cell? w _ hw248_1)).trans hw248_1), ((HB.out.cell (World.block_lt_of_cell? w _ hw248_2)).trans hw248_2), ((HB.out.cell (World.block_lt_of_cell? w _ hw248_3)).trans hw248_3), ((HB.out.cell (World.block_lt_of_cell? w _ hw248_4)).trans hw248_4)⟩ (fun hHeld => ?_); refine with_tabW laws_heldItemS.tab4 laws_heldItemS.bits4 (fun HT_ HW_ => ?_)
         generalize wr.drew = w25 at HB hx248_0 hx248_1 hx248_2 hx248_3 hx248_4 hHeld ⊢
         refine zp_6 0 (some 12) zm1_6 HT_ ?_
         refine zp_6 1 (some 13) zm2_6 HT_ ?_
         refine zp_6 2 (some 14) zm3_6 HT_ ?_
         refine zp_6 3 (some 15) zm4_6 HT_ ?_
         refine zp_6 5 (some 17) zm5_6 HT_ ?_
         refine take_ (i := 4) (N := some 16) (v := ?_) (a' := ?_) zm6_6 rfl rfl (take_ofW HT_.out HW_.out (by kernel_rfl)) (fun _ _ _ h => h) (Or.inl ⟨by rfl, ?_⟩) hHeld ?_ ?_
         rotate_left
         ·
          rintro w' ⟨s0, s1, s2, s3, s4⟩
          go_simp
          with_reducible rfl
         rotate_left
         ·
          simp only [Act.put, List.setIfInBounds_toArray, List.set_cons_zero, List.set_cons_succ, i64_w, i32_w]
          rfl
         refine one_ (i := 6) (N := some 18) zm7_6 rfl rfl (one_of HT_.out (by kernel_rfl)) (by decide) (fun K hK => ?_)
         refine goes_ Try.func20 (by kernel_rfl) rfl #[.int .i64 x1_1] (by rfl) rfl rfl zb2_6 ?_
         with_reducible refine (laws_markText.calls k1 x1_1 t249 _ A5.out).mono ?_
         rintro e w26 ⟨rfl, hb⟩
         refine ⟨_, rfl, ?_⟩
         have n0_ := Aside0.mk (below_step zb3_6 hb)
         clear HB
         have HB := n0_
         clear n0_
         (try clear hb)
         (try clear hb2)
         (try clear hk)
         (try clear hi)
         refine hK.out _ _ ⟨((HB.out.cell (World.block_lt_of_cell? w _ hw248_0)).trans hw248_0), ((HB.out.cell (World.block_lt_of_cell? w _ hw248_1)).trans hw248_1), ((HB.out.cell (World.block_lt_of_cell? w _ hw248_2)).trans hw248_2), ((HB.out.cell (World.block_lt_of_cell? w _ hw248_3)).trans hw248_3), ((HB.out.cell (World.block_lt_of_cell? w _ hw248_4)).trans hw248_4)⟩ (fun hHeld => ?_)
         clear hK K
         refine norm_ (a' := ?_) ?_ ?_
         rotate_left
         ·
          show Act.put _ (some 18) _ = _
          simp only [Act.put, List.setIfInBounds_toArray, List.set_cons_zero, List.set_cons_succ, i64_w, i32_w]
          rfl
         refine zp_6 7 (some 19) zm8_6 HT_ ?_
         refine done_ (done_of HT_.out (by kernel_rfl)) ?_
         try go_wp2
         have n0_ := Aside0.mk (below_drew1 HB.out)
         clear HB
         have HB := n0_
         clear n0_
         have p250 : 0 ≤ (x5_1 : Int) := of_decide_eq_true zb1_6
         have q250 : x5_1 < (l0.length : Int) := of_decide_eq_true zb1_6
         obtain ⟨ad250, e250, hx250_0, hx250_1, hx250_2, hx250_3, hx250_4⟩ := at_T33 HR0.out x5_1 p250 q250
         have hw250_4 := hx250_4
         have hw250_3 := hx250_3
         have hw250_2 := hx250_2
         have hw250_1 := hx250_1
         have hw250_0 := hx250_0
         obtain rfl : ad248 = ad250 := (by injection e250)
         replace hx250_0 := (HB.out.cell (World.block_lt_of_cell? w _ hx250_0)).trans hx250_0
         replace hx250_1 := (HB.out.cell (World.block_lt_of_cell? w _ hx250_1)).trans hx250_1
         replace hx250_2 := (HB.out.cell (World.block_lt_of_cell? w _ hx250_2)).trans hx250_2
         replace hx250_3 := (HB.out.cell (World.block_lt_of_cell? w _ hx250_3)).trans hx250_3
         replace hx250_4 := (HB.out.cell (World.block_lt_of_cell? w _ hx250_4)).trans hx250_4
         replace p250 := eq_true p250
         replace q250 := eq_true q250
         refine start_ (n := 8) (S := fun w' => w'.cell? (ad248.add ((x5_1).toNat * 5)) = some (.string ((rd_T33 l0 x5_1).f0)) ∧ w'.cell? ⟨(ad248.add ((x5_1).toNat * 5)).block, (ad248.add ((x5_1).toNat * 5)).off + 1, none⟩ = some (.string ((rd_T33 l0 x5_1).f1)) ∧ w'.cell? ⟨(ad248.add ((x5_1).toNat * 5)).block, (ad248.add ((x5_1).toNat * 5)).off + 2, none⟩ = some (.string ((rd_T33 l0 x5_1).f2)) ∧ w'.cell? ⟨(ad248.add ((x5_1).toNat * 5)).block, (ad248.add ((x5_1).toNat * 5)).off + 3, none⟩ = some (.int .i64 ((rd_T33 l0 x5_1).f3)) ∧ w'.cell? ⟨(ad248.add ((x5_1).toNat * 5)).block, (ad248.add ((x5_1).toNat * 5)).off + 4, none⟩ = some (.bool ((rd_T33 l0 x5_1).f4))) (ds := []) zm0_6 (by kernel_rfl) rfl rfl ⟨((HB.out.cell (World.block_lt_of_cell? w _ hw250_0)).trans hw250_0), ((HB.out.cell (World.block_lt_of_cell? w _ hw250_1)).trans hw250_1), ((HB.out.cell (World.block_lt_of_cell? w _ hw250_2)).trans hw250_2), ((HB.out.cell (World.block_lt_of_cell? w _ hw250_3)).trans hw250_3), ((HB.out.cell (World.block_lt_of_cell? w _ hw250_4)).trans hw250_4)⟩ (fun hHeld => ?_); refine with_tabW laws_heldItemS.tab7 laws_heldItemS.bits7 (fun HT_ HW_ => ?_)
         generalize w26.drew = w27 at HB hx250_0 hx250_1 hx250_2 hx250_3 hx250_4 hHeld ⊢
         refine zp_6 0 (some 22) zm1_6 HT_ ?_
         refine zp_6 1 (some 23) zm2_6 HT_ ?_
         refine zp_6 2 (some 24) zm3_6 HT_ ?_
         refine zp_6 3 (some 25) zm4_6 HT_ ?_
         refine zp_6 5 (some 27) zm5_6 HT_ ?_
         refine take_ (i := 4) (N := some 26) (v := ?_) (a' := ?_) zm6_6 rfl rfl (take_ofW HT_.out HW_.out (by kernel_rfl)) (fun _ _ _ h => h) (Or.inl ⟨by rfl, ?_⟩) hHeld ?_ ?_
         rotate_left
         ·
          rintro w' ⟨s0, s1, s2, s3, s4⟩
          go_simp
          with_reducible rfl
         rotate_left
         ·
          simp only [Act.put, List.setIfInBounds_toArray, List.set_cons_zero, List.set_cons_succ, i64_w, i32_w]
          rfl
         refine one_ (i := 6) (N := some 28) zm7_6 rfl rfl (one_of HT_.out (by kernel_rfl)) (by decide) (fun K hK => ?_)
         refine goes_ Try.func20 (by kernel_rfl) rfl #[.int .i64 (wrap64 (x1_1 + 1))] (by rfl) rfl rfl zb2_6 ?_
         with_reducible refine (laws_markText.calls k1 (wrap64 (x1_1 + 1)) t251 _ A7.out).mono ?_
         rintro e w28 ⟨rfl, hb⟩
         refine ⟨_, rfl, ?_⟩
         have n0_ := Aside0.mk (below_step zb3_6 hb)
         clear HB
         have HB := n0_
         clear n0_
         (try clear hb)
         (try clear hb2)
         (try clear hk)
         (try clear hi)
         refine hK.out _ _ ⟨((HB.out.cell (World.block_lt_of_cell? w _ hw250_0)).trans hw250_0), ((HB.out.cell (World.block_lt_of_cell? w _ hw250_1)).trans hw250_1), ((HB.out.cell (World.block_lt_of_cell? w _ hw250_2)).trans hw250_2), ((HB.out.cell (World.block_lt_of_cell? w _ hw250_3)).trans hw250_3), ((HB.out.cell (World.block_lt_of_cell? w _ hw250_4)).trans hw250_4)⟩ (fun hHeld => ?_)
         clear hK K
         refine norm_ (a' := ?_) ?_ ?_
         rotate_left
         ·
          show Act.put _ (some 28) _ = _
          simp only [Act.put, List.setIfInBounds_toArray, List.set_cons_zero, List.set_cons_succ, i64_w, i32_w]
          rfl
         refine zp_6 7 (some 29) zm8_6 HT_ ?_
         refine done_ (done_of HT_.out (by kernel_rfl)) ?_
         try go_wp2
         have n0_ := Aside0.mk (below_drew1 HB.out)
         clear HB
         have HB := n0_
         clear n0_
         have p252 : 0 ≤ (x5_1 : Int) := of_decide_eq_true zb1_6
         have q252 : x5_1 < (l0.length : Int) := of_decide_eq_true zb1_6
         obtain ⟨ad252, e252, hx252_0, hx252_1, hx252_2, hx252_3, hx252_4⟩ := at_T33 HR0.out x5_1 p252 q252
         have hw252_4 := hx252_4
         have hw252_3 := hx252_3
         have hw252_2 := hx252_2
         have hw252_1 := hx252_1
         have hw252_0 := hx252_0
         obtain rfl : ad248 = ad252 := (by injection e252)
         replace hx252_0 := (HB.out.cell (World.block_lt_of_cell? w _ hx252_0)).trans hx252_0
         replace hx252_1 := (HB.out.cell (World.block_lt_of_cell? w _ hx252_1)).trans hx252_1
         replace hx252_2 := (HB.out.cell (World.block_lt_of_cell? w _ hx252_2)).trans hx252_2
         replace hx252_3 := (HB.out.cell (World.block_lt_of_cell? w _ hx252_3)).trans hx252_3
         replace hx252_4 := (HB.out.cell (World.block_lt_of_cell? w _ hx252_4)).trans hx252_4
         replace p252 := eq_true p252
         replace q252 := eq_true q252
         refine start_ (n := 8) (S := fun w' => w'.cell? (ad248.add ((x5_1).toNat * 5)) = some (.string ((rd_T33 l0 x5_1).f0)) ∧ w'.cell? ⟨(ad248.add ((x5_1).toNat * 5)).block, (ad248.add ((x5_1).toNat * 5)).off + 1, none⟩ = some (.string ((rd_T33 l0 x5_1).f1)) ∧ w'.cell? ⟨(ad248.add ((x5_1).toNat * 5)).block, (ad248.add ((x5_1).toNat * 5)).off + 2, none⟩ = some (.string ((rd_T33 l0 x5_1).f2)) ∧ w'.cell? ⟨(ad248.add ((x5_1).toNat * 5)).block, (ad248.add ((x5_1).toNat * 5)).off + 3, none⟩ = some (.int .i64 ((rd_T33 l0 x5_1).f3)) ∧ w'.cell? ⟨(ad248.add ((x5_1).toNat * 5)).block, (ad248.add ((x5_1).toNat * 5)).off + 4, none⟩ = some (.bool ((rd_T33 l0 x5_1).f4))) (ds := []) zm0_6 (by kernel_rfl) rfl rfl ⟨((HB.out.cell (World.block_lt_of_cell? w _ hw252_0)).trans hw252_0), ((HB.out.cell (World.block_lt_of_cell? w _ hw252_1)).trans hw252_1), ((HB.out.cell (World.block_lt_of_cell? w _ hw252_2)).trans hw252_2), ((HB.out.cell (World.block_lt_of_cell? w _ hw252_3)).trans hw252_3), ((HB.out.cell (World.block_lt_of_cell? w _ hw252_4)).trans hw252_4)⟩ (fun hHeld => ?_); refine with_tabW laws_heldItemS.tab10 laws_heldItemS.bits10 (fun HT_ HW_ => ?_)
         generalize w28.drew = w29 at HB hx252_0 hx252_1 hx252_2 hx252_3 hx252_4 hHeld ⊢
         refine zp_6 0 (some 32) zm1_6 HT_ ?_
         refine zp_6 1 (some 33) zm2_6 HT_ ?_
         refine zp_6 2 (some 34) zm3_6 HT_ ?_
         refine zp_6 3 (some 35) zm4_6 HT_ ?_
         refine zp_6 5 (some 37) zm5_6 HT_ ?_
         refine take_ (i := 4) (N := some 36) (v := ?_) (a' := ?_) zm6_6 rfl rfl (take_ofW HT_.out HW_.out (by kernel_rfl)) (fun _ _ _ h => h) (Or.inl ⟨by rfl, ?_⟩) hHeld ?_ ?_
         rotate_left
         ·
          rintro w' ⟨s0, s1, s2, s3, s4⟩
          go_simp
          with_reducible rfl
         rotate_left
         ·
          simp only [Act.put, List.setIfInBounds_toArray, List.set_cons_zero, List.set_cons_succ, i64_w, i32_w]
          rfl
         refine one_ (i := 6) (N := some 38) zm7_6 rfl rfl (one_of HT_.out (by kernel_rfl)) (by decide) (fun K hK => ?_)
         refine goes_ Try.func20 (by kernel_rfl) rfl #[.int .i64 (wrap64 ((wrap64 (x1_1 + 1)) + 1))] (by rfl) rfl rfl zb2_6 ?_
         with_reducible refine (laws_markText.calls k1 (wrap64 ((wrap64 (x1_1 + 1)) + 1)) t253 _ A9.out).mono ?_
         rintro e w30 ⟨rfl, hb⟩
         refine ⟨_, rfl, ?_⟩
         have n0_ := Aside0.mk (below_step zb3_6 hb)
         clear HB
         have HB := n0_
         clear n0_
         (try clear hb)
         (try clear hb2)
         (try clear hk)
         (try clear hi)
         refine hK.out _ _ ⟨((HB.out.cell (World.block_lt_of_cell? w _ hw252_0)).trans hw252_0), ((HB.out.cell (World.block_lt_of_cell? w _ hw252_1)).trans hw252_1), ((HB.out.cell (World.block_lt_of_cell? w _ hw252_2)).trans hw252_2), ((HB.out.cell (World.block_lt_of_cell? w _ hw252_3)).trans hw252_3), ((HB.out.cell (World.block_lt_of_cell? w _ hw252_4)).trans hw252_4)⟩ (fun hHeld => ?_)
         clear hK K
         refine norm_ (a' := ?_) ?_ ?_
         rotate_left
         ·
          show Act.put _ (some 38) _ = _
          simp only [Act.put, List.setIfInBounds_toArray, List.set_cons_zero, List.set_cons_succ, i64_w, i32_w]
          rfl
         refine zp_6 7 (some 39) zm8_6 HT_ ?_
         refine done_ (done_of HT_.out (by kernel_rfl)) ?_
         have p254 : 0 ≤ (x5_1 : Int) := of_decide_eq_true zb1_6
         have q254 : x5_1 < (l0.length : Int) := of_decide_eq_true zb1_6
         obtain ⟨ad254, e254, hx254_0, hx254_1, hx254_2, hx254_3, hx254_4⟩ := at_T33 HR0.out x5_1 p254 q254
         obtain rfl : ad248 = ad254 := (by injection e254)
         replace hx254_0 := (HB.out.cell (World.block_lt_of_cell? w _ hx254_0)).trans hx254_0
         replace hx254_1 := (HB.out.cell (World.block_lt_of_cell? w _ hx254_1)).trans hx254_1
         replace hx254_2 := (HB.out.cell (World.block_lt_of_cell? w _ hx254_2)).trans hx254_2
         replace hx254_3 := (HB.out.cell (World.block_lt_of_cell? w _ hx254_3)).trans hx254_3
         replace hx254_4 := (HB.out.cell (World.block_lt_of_cell? w _ hx254_4)).trans hx254_4
         replace p254 := eq_true p254
         replace q254 := eq_true q254
         try go_wp2
         go_ret
         exact ⟨by first | rfl | (simp [errW_none, errW_some] <;> rfl) | (simp [*, errW_none, errW_some] <;> rfl), by repeat (first | (with_reducible first | exact HB.out | apply below_alloc | apply pw_below_drewN | apply below_drew1) | exact HB.out)⟩
       ·
        rw [if_neg c10] at H
        have c10b0 : (((rd_T33 l0 x5_1).f2).toList == t253.toList) = false := beq_eq_false_iff_ne.mpr c10
        have c10b1 : (((rd_T33 l0 x5_1).f2).toList != t253.toList) = true := bne_iff_ne.mpr c10
        obtain rfl := Option.some.inj H
        try go_wp2
        have n0_ := Aside0.mk (below_drew1 HB.out)
        clear HB
        have HB := n0_
        clear n0_
        have p248 : 0 ≤ (x5_1 : Int) := of_decide_eq_true zb1_6
        have q248 : x5_1 < (l0.length : Int) := of_decide_eq_true zb1_6
        obtain ⟨ad248, e248, hx248_0, hx248_1, hx248_2, hx248_3, hx248_4⟩ := at_T33 HR0.out x5_1 p248 q248
        have hw248_4 := hx248_4
        have hw248_3 := hx248_3
        have hw248_2 := hx248_2
        have hw248_1 := hx248_1
        have hw248_0 := hx248_0
        cases e248
        replace hx248_0 := (HB.out.cell (World.block_lt_of_cell? w _ hx248_0)).trans hx248_0
        replace hx248_1 := (HB.out.cell (World.block_lt_of_cell? w _ hx248_1)).trans hx248_1
        replace hx248_2 := (HB.out.cell (World.block_lt_of_cell? w _ hx248_2)).trans hx248_2
        replace hx248_3 := (HB.out.cell (World.block_lt_of_cell? w _ hx248_3)).trans hx248_3
        replace hx248_4 := (HB.out.cell (World.block_lt_of_cell? w _ hx248_4)).trans hx248_4
        replace p248 := eq_true p248
        replace q248 := eq_true q248
        refine start_ (n := 8) (S := fun w' => w'.cell? (ad248.add ((x5_1).toNat * 5)) = some (.string ((rd_T33 l0 x5_1).f0)) ∧ w'.cell? ⟨(ad248.add ((x5_1).toNat * 5)).block, (ad248.add ((x5_1).toNat * 5)).off + 1, none⟩ = some (.string ((rd_T33 l0 x5_1).f1)) ∧ w'.cell? ⟨(ad248.add ((x5_1).toNat * 5)).block, (ad248.add ((x5_1).toNat * 5)).off + 2, none⟩ = some (.string ((rd_T33 l0 x5_1).f2)) ∧ w'.cell? ⟨(ad248.add ((x5_1).toNat * 5)).block, (ad248.add ((x5_1).toNat * 5)).off + 3, none⟩ = some (.int .i64 ((rd_T33 l0 x5_1).f3)) ∧ w'.cell? ⟨(ad248.add ((x5_1).toNat * 5)).block, (ad248.add ((x5_1).toNat * 5)).off + 4, none⟩ = some (.bool ((rd_T33 l0 x5_1).f4))) (ds := []) zm0_6 (by kernel_rfl) rfl rfl ⟨((HB.out.cell (World.block_lt_of_cell? w _ hw248_0)).trans hw248_0), ((HB.out.cell (World.block_lt_of_cell? w _ hw248_1)).trans hw248_1), ((HB.out.cell (World.block_lt_of_cell? w _ hw248_2)).trans hw248_2), ((HB.out.cell (World.block_lt_of_cell? w _ hw248_3)).trans hw248_3), ((HB.out.cell (World.block_lt_of_cell? w _ hw248_4)).trans hw248_4)⟩ (fun hHeld => ?_); refine with_tabW laws_heldItemS.tab4 laws_heldItemS.bits4 (fun HT_ HW_ => ?_)
        generalize wr.drew = w31 at HB hx248_0 hx248_1 hx248_2 hx248_3 hx248_4 hHeld ⊢
        refine zp_6 0 (some 12) zm1_6 HT_ ?_
        refine zp_6 1 (some 13) zm2_6 HT_ ?_
        refine zp_6 2 (some 14) zm3_6 HT_ ?_
        refine zp_6 3 (some 15) zm4_6 HT_ ?_
        refine zp_6 5 (some 17) zm5_6 HT_ ?_
        refine take_ (i := 4) (N := some 16) (v := ?_) (a' := ?_) zm6_6 rfl rfl (take_ofW HT_.out HW_.out (by kernel_rfl)) (fun _ _ _ h => h) (Or.inl ⟨by rfl, ?_⟩) hHeld ?_ ?_
        rotate_left
        ·
         rintro w' ⟨s0, s1, s2, s3, s4⟩
         go_simp
         with_reducible rfl
        rotate_left
        ·
         simp only [Act.put, List.setIfInBounds_toArray, List.set_cons_zero, List.set_cons_succ, i64_w, i32_w]
         rfl
        refine one_ (i := 6) (N := some 18) zm7_6 rfl rfl (one_of HT_.out (by kernel_rfl)) (by decide) (fun K hK => ?_)
        refine goes_ Try.func20 (by kernel_rfl) rfl #[.int .i64 x1_1] (by rfl) rfl rfl zb2_6 ?_
        with_reducible refine (laws_markText.calls k1 x1_1 t249 _ A5.out).mono ?_
        rintro e w32 ⟨rfl, hb⟩
        refine ⟨_, rfl, ?_⟩
        have n0_ := Aside0.mk (below_step zb3_6 hb)
        clear HB
        have HB := n0_
        clear n0_
        (try clear hb)
        (try clear hb2)
        (try clear hk)
        (try clear hi)
        refine hK.out _ _ ⟨((HB.out.cell (World.block_lt_of_cell? w _ hw248_0)).trans hw248_0), ((HB.out.cell (World.block_lt_of_cell? w _ hw248_1)).trans hw248_1), ((HB.out.cell (World.block_lt_of_cell? w _ hw248_2)).trans hw248_2), ((HB.out.cell (World.block_lt_of_cell? w _ hw248_3)).trans hw248_3), ((HB.out.cell (World.block_lt_of_cell? w _ hw248_4)).trans hw248_4)⟩ (fun hHeld => ?_)
        clear hK K
        refine norm_ (a' := ?_) ?_ ?_
        rotate_left
        ·
         show Act.put _ (some 18) _ = _
         simp only [Act.put, List.setIfInBounds_toArray, List.set_cons_zero, List.set_cons_succ, i64_w, i32_w]
         rfl
        refine zp_6 7 (some 19) zm8_6 HT_ ?_
        refine done_ (done_of HT_.out (by kernel_rfl)) ?_
        try go_wp2
        have n0_ := Aside0.mk (below_drew1 HB.out)
        clear HB
        have HB := n0_
        clear n0_
        have p250 : 0 ≤ (x5_1 : Int) := of_decide_eq_true zb1_6
        have q250 : x5_1 < (l0.length : Int) := of_decide_eq_true zb1_6
        obtain ⟨ad250, e250, hx250_0, hx250_1, hx250_2, hx250_3, hx250_4⟩ := at_T33 HR0.out x5_1 p250 q250
        have hw250_4 := hx250_4
        have hw250_3 := hx250_3
        have hw250_2 := hx250_2
        have hw250_1 := hx250_1
        have hw250_0 := hx250_0
        obtain rfl : ad248 = ad250 := (by injection e250)
        replace hx250_0 := (HB.out.cell (World.block_lt_of_cell? w _ hx250_0)).trans hx250_0
        replace hx250_1 := (HB.out.cell (World.block_lt_of_cell? w _ hx250_1)).trans hx250_1
        replace hx250_2 := (HB.out.cell (World.block_lt_of_cell? w _ hx250_2)).trans hx250_2
        replace hx250_3 := (HB.out.cell (World.block_lt_of_cell? w _ hx250_3)).trans hx250_3
        replace hx250_4 := (HB.out.cell (World.block_lt_of_cell? w _ hx250_4)).trans hx250_4
        replace p250 := eq_true p250
        replace q250 := eq_true q250
        refine start_ (n := 8) (S := fun w' => w'.cell? (ad248.add ((x5_1).toNat * 5)) = some (.string ((rd_T33 l0 x5_1).f0)) ∧ w'.cell? ⟨(ad248.add ((x5_1).toNat * 5)).block, (ad248.add ((x5_1).toNat * 5)).off + 1, none⟩ = some (.string ((rd_T33 l0 x5_1).f1)) ∧ w'.cell? ⟨(ad248.add ((x5_1).toNat * 5)).block, (ad248.add ((x5_1).toNat * 5)).off + 2, none⟩ = some (.string ((rd_T33 l0 x5_1).f2)) ∧ w'.cell? ⟨(ad248.add ((x5_1).toNat * 5)).block, (ad248.add ((x5_1).toNat * 5)).off + 3, none⟩ = some (.int .i64 ((rd_T33 l0 x5_1).f3)) ∧ w'.cell? ⟨(ad248.add ((x5_1).toNat * 5)).block, (ad248.add ((x5_1).toNat * 5)).off + 4, none⟩ = some (.bool ((rd_T33 l0 x5_1).f4))) (ds := []) zm0_6 (by kernel_rfl) rfl rfl ⟨((HB.out.cell (World.block_lt_of_cell? w _ hw250_0)).trans hw250_0), ((HB.out.cell (World.block_lt_of_cell? w _ hw250_1)).trans hw250_1), ((HB.out.cell (World.block_lt_of_cell? w _ hw250_2)).trans hw250_2), ((HB.out.cell (World.block_lt_of_cell? w _ hw250_3)).trans hw250_3), ((HB.out.cell (World.block_lt_of_cell? w _ hw250_4)).trans hw250_4)⟩ (fun hHeld => ?_); refine with_tabW laws_heldItemS.tab7 laws_heldItemS.bits7 (fun HT_ HW_ => ?_)
        generalize w32.drew = w33 at HB hx250_0 hx250_1 hx250_2 hx250_3 hx250_4 hHeld ⊢
        refine zp_6 0 (some 22) zm1_6 HT_ ?_
        refine zp_6 1 (some 23) zm2_6 HT_ ?_
        refine zp_6 2 (some 24) zm3_6 HT_ ?_
        refine zp_6 3 (some 25) zm4_6 HT_ ?_
        refine zp_6 5 (some 27) zm5_6 HT_ ?_
        refine take_ (i := 4) (N := some 26) (v := ?_) (a' := ?_) zm6_6 rfl rfl (take_ofW HT_.out HW_.out (by kernel_rfl)) (fun _ _ _ h => h) (Or.inl ⟨by rfl, ?_⟩) hHeld ?_ ?_
        rotate_left
        ·
         rintro w' ⟨s0, s1, s2, s3, s4⟩
         go_simp
         with_reducible rfl
        rotate_left
        ·
         simp only [Act.put, List.setIfInBounds_toArray, List.set_cons_zero, List.set_cons_succ, i64_w, i32_w]
         rfl
        refine one_ (i := 6) (N := some 28) zm7_6 rfl rfl (one_of HT_.out (by kernel_rfl)) (by decide) (fun K hK => ?_)
        refine goes_ Try.func20 (by kernel_rfl) rfl #[.int .i64 (wrap64 (x1_1 + 1))] (by rfl) rfl rfl zb2_6 ?_
        with_reducible refine (laws_markText.calls k1 (wrap64 (x1_1 + 1)) t251 _ A7.out).mono ?_
        rintro e w34 ⟨rfl, hb⟩
        refine ⟨_, rfl, ?_⟩
        have n0_ := Aside0.mk (below_step zb3_6 hb)
        clear HB
        have HB := n0_
        clear n0_
        (try clear hb)
        (try clear hb2)
        (try clear hk)
        (try clear hi)
        refine hK.out _ _ ⟨((HB.out.cell (World.block_lt_of_cell? w _ hw250_0)).trans hw250_0), ((HB.out.cell (World.block_lt_of_cell? w _ hw250_1)).trans hw250_1), ((HB.out.cell (World.block_lt_of_cell? w _ hw250_2)).trans hw250_2), ((HB.out.cell (World.block_lt_of_cell? w _ hw250_3)).trans hw250_3), ((HB.out.cell (World.block_lt_of_cell? w _ hw250_4)).trans hw250_4)⟩ (fun hHeld => ?_)
        clear hK K
        refine norm_ (a' := ?_) ?_ ?_
        rotate_left
        ·
         show Act.put _ (some 28) _ = _
         simp only [Act.put, List.setIfInBounds_toArray, List.set_cons_zero, List.set_cons_succ, i64_w, i32_w]
         rfl
        refine zp_6 7 (some 29) zm8_6 HT_ ?_
        refine done_ (done_of HT_.out (by kernel_rfl)) ?_
        try go_wp2
        have n0_ := Aside0.mk (below_drew1 HB.out)
        clear HB
        have HB := n0_
        clear n0_
        have p252 : 0 ≤ (x5_1 : Int) := of_decide_eq_true zb1_6
        have q252 : x5_1 < (l0.length : Int) := of_decide_eq_true zb1_6
        obtain ⟨ad252, e252, hx252_0, hx252_1, hx252_2, hx252_3, hx252_4⟩ := at_T33 HR0.out x5_1 p252 q252
        have hw252_4 := hx252_4
        have hw252_3 := hx252_3
        have hw252_2 := hx252_2
        have hw252_1 := hx252_1
        have hw252_0 := hx252_0
        obtain rfl : ad248 = ad252 := (by injection e252)
        replace hx252_0 := (HB.out.cell (World.block_lt_of_cell? w _ hx252_0)).trans hx252_0
        replace hx252_1 := (HB.out.cell (World.block_lt_of_cell? w _ hx252_1)).trans hx252_1
        replace hx252_2 := (HB.out.cell (World.block_lt_of_cell? w _ hx252_2)).trans hx252_2
        replace hx252_3 := (HB.out.cell (World.block_lt_of_cell? w _ hx252_3)).trans hx252_3
        replace hx252_4 := (HB.out.cell (World.block_lt_of_cell? w _ hx252_4)).trans hx252_4
        replace p252 := eq_true p252
        replace q252 := eq_true q252
        refine start_ (n := 8) (S := fun w' => w'.cell? (ad248.add ((x5_1).toNat * 5)) = some (.string ((rd_T33 l0 x5_1).f0)) ∧ w'.cell? ⟨(ad248.add ((x5_1).toNat * 5)).block, (ad248.add ((x5_1).toNat * 5)).off + 1, none⟩ = some (.string ((rd_T33 l0 x5_1).f1)) ∧ w'.cell? ⟨(ad248.add ((x5_1).toNat * 5)).block, (ad248.add ((x5_1).toNat * 5)).off + 2, none⟩ = some (.string ((rd_T33 l0 x5_1).f2)) ∧ w'.cell? ⟨(ad248.add ((x5_1).toNat * 5)).block, (ad248.add ((x5_1).toNat * 5)).off + 3, none⟩ = some (.int .i64 ((rd_T33 l0 x5_1).f3)) ∧ w'.cell? ⟨(ad248.add ((x5_1).toNat * 5)).block, (ad248.add ((x5_1).toNat * 5)).off + 4, none⟩ = some (.bool ((rd_T33 l0 x5_1).f4))) (ds := []) zm0_6 (by kernel_rfl) rfl rfl ⟨((HB.out.cell (World.block_lt_of_cell? w _ hw252_0)).trans hw252_0), ((HB.out.cell (World.block_lt_of_cell? w _ hw252_1)).trans hw252_1), ((HB.out.cell (World.block_lt_of_cell? w _ hw252_2)).trans hw252_2), ((HB.out.cell (World.block_lt_of_cell? w _ hw252_3)).trans hw252_3), ((HB.out.cell (World.block_lt_of_cell? w _ hw252_4)).trans hw252_4)⟩ (fun hHeld => ?_); refine with_tabW laws_heldItemS.tab10 laws_heldItemS.bits10 (fun HT_ HW_ => ?_)
        generalize w34.drew = w35 at HB hx252_0 hx252_1 hx252_2 hx252_3 hx252_4 hHeld ⊢
        refine zp_6 0 (some 32) zm1_6 HT_ ?_
        refine zp_6 1 (some 33) zm2_6 HT_ ?_
        refine zp_6 2 (some 34) zm3_6 HT_ ?_
        refine zp_6 3 (some 35) zm4_6 HT_ ?_
        refine zp_6 5 (some 37) zm5_6 HT_ ?_
        refine take_ (i := 4) (N := some 36) (v := ?_) (a' := ?_) zm6_6 rfl rfl (take_ofW HT_.out HW_.out (by kernel_rfl)) (fun _ _ _ h => h) (Or.inl ⟨by rfl, ?_⟩) hHeld ?_ ?_
        rotate_left
        ·
         rintro w' ⟨s0, s1, s2, s3, s4⟩
         go_simp
         with_reducible rfl
        rotate_left
        ·
         simp only [Act.put, List.setIfInBounds_toArray, List.set_cons_zero, List.set_cons_succ, i64_w, i32_w]
         rfl
        refine one_ (i := 6) (N := some 38) zm7_6 rfl rfl (one_of HT_.out (by kernel_rfl)) (by decide) (fun K hK => ?_)
        refine goes_ Try.func20 (by kernel_rfl) rfl #[.int .i64 (wrap64 ((wrap64 (x1_1 + 1)) + 1))] (by rfl) rfl rfl zb2_6 ?_
        with_reducible refine (laws_markText.calls k1 (wrap64 ((wrap64 (x1_1 + 1)) + 1)) t253 _ A9.out).mono ?_
        rintro e w36 ⟨rfl, hb⟩
        refine ⟨_, rfl, ?_⟩
        have n0_ := Aside0.mk (below_step zb3_6 hb)
        clear HB
        have HB := n0_
        clear n0_
        (try clear hb)
        (try clear hb2)
        (try clear hk)
        (try clear hi)
        refine hK.out _ _ ⟨((HB.out.cell (World.block_lt_of_cell? w _ hw252_0)).trans hw252_0), ((HB.out.cell (World.block_lt_of_cell? w _ hw252_1)).trans hw252_1), ((HB.out.cell (World.block_lt_of_cell? w _ hw252_2)).trans hw252_2), ((HB.out.cell (World.block_lt_of_cell? w _ hw252_3)).trans hw252_3), ((HB.out.cell (World.block_lt_of_cell? w _ hw252_4)).trans hw252_4)⟩ (fun hHeld => ?_)
        clear hK K
        refine norm_ (a' := ?_) ?_ ?_
        rotate_left
        ·
         show Act.put _ (some 38) _ = _
         simp only [Act.put, List.setIfInBounds_toArray, List.set_cons_zero, List.set_cons_succ, i64_w, i32_w]
         rfl
        refine zp_6 7 (some 39) zm8_6 HT_ ?_
        refine done_ (done_of HT_.out (by kernel_rfl)) ?_
        try go_wp2
        go_ret
        exact ⟨by first | rfl | (simp [errW_none, errW_some] <;> rfl) | (simp [*, errW_none, errW_some] <;> rfl), by repeat (first | (with_reducible first | exact HB.out | apply below_alloc | apply pw_below_drewN | apply below_drew1) | exact HB.out)⟩
      ·
       rw [if_neg c8] at H
       have c8b0 : (((rd_T33 l0 x5_1).f1).toList == t251.toList) = false := beq_eq_false_iff_ne.mpr c8
       have c8b1 : (((rd_T33 l0 x5_1).f1).toList != t251.toList) = true := bne_iff_ne.mpr c8
       obtain rfl := Option.some.inj H
       try go_wp2
       have n0_ := Aside0.mk (below_drew1 HB.out)
       clear HB
       have HB := n0_
       clear n0_
       have p248 : 0 ≤ (x5_1 : Int) := of_decide_eq_true zb1_6
       have q248 : x5_1 < (l0.length : Int) := of_decide_eq_true zb1_6
       obtain ⟨ad248, e248, hx248_0, hx248_1, hx248_2, hx248_3, hx248_4⟩ := at_T33 HR0.out x5_1 p248 q248
       have hw248_4 := hx248_4
       have hw248_3 := hx248_3
       have hw248_2 := hx248_2
       have hw248_1 := hx248_1
       have hw248_0 := hx248_0
       cases e248
       replace hx248_0 := (HB.out.cell (World.block_lt_of_cell? w _ hx248_0)).trans hx248_0
       replace hx248_1 := (HB.out.cell (World.block_lt_of_cell? w _ hx248_1)).trans hx248_1
       replace hx248_2 := (HB.out.cell (World.block_lt_of_cell? w _ hx248_2)).trans hx248_2
       replace hx248_3 := (HB.out.cell (World.block_lt_of_cell? w _ hx248_3)).trans hx248_3
       replace hx248_4 := (HB.out.cell (World.block_lt_of_cell? w _ hx248_4)).trans hx248_4
       replace p248 := eq_true p248
       replace q248 := eq_true q248
       refine start_ (n := 8) (S := fun w' => w'.cell? (ad248.add ((x5_1).toNat * 5)) = some (.string ((rd_T33 l0 x5_1).f0)) ∧ w'.cell? ⟨(ad248.add ((x5_1).toNat * 5)).block, (ad248.add ((x5_1).toNat * 5)).off + 1, none⟩ = some (.string ((rd_T33 l0 x5_1).f1)) ∧ w'.cell? ⟨(ad248.add ((x5_1).toNat * 5)).block, (ad248.add ((x5_1).toNat * 5)).off + 2, none⟩ = some (.string ((rd_T33 l0 x5_1).f2)) ∧ w'.cell? ⟨(ad248.add ((x5_1).toNat * 5)).block, (ad248.add ((x5_1).toNat * 5)).off + 3, none⟩ = some (.int .i64 ((rd_T33 l0 x5_1).f3)) ∧ w'.cell? ⟨(ad248.add ((x5_1).toNat * 5)).block, (ad248.add ((x5_1).toNat * 5)).off + 4, none⟩ = some (.bool ((rd_T33 l0 x5_1).f4))) (ds := []) zm0_6 (by kernel_rfl) rfl rfl ⟨((HB.out.cell (World.block_lt_of_cell? w _ hw248_0)).trans hw248_0), ((HB.out.cell (World.block_lt_of_cell? w _ hw248_1)).trans hw248_1), ((HB.out.cell (World.block_lt_of_cell? w _ hw248_2)).trans hw248_2), ((HB.out.cell (World.block_lt_of_cell? w _ hw248_3)).trans hw248_3), ((HB.out.cell (World.block_lt_of_cell? w _ hw248_4)).trans hw248_4)⟩ (fun hHeld => ?_); refine with_tabW laws_heldItemS.tab4 laws_heldItemS.bits4 (fun HT_ HW_ => ?_)
       generalize wr.drew = w37 at HB hx248_0 hx248_1 hx248_2 hx248_3 hx248_4 hHeld ⊢
       refine zp_6 0 (some 12) zm1_6 HT_ ?_
       refine zp_6 1 (some 13) zm2_6 HT_ ?_
       refine zp_6 2 (some 14) zm3_6 HT_ ?_
       refine zp_6 3 (some 15) zm4_6 HT_ ?_
       refine zp_6 5 (some 17) zm5_6 HT_ ?_
       refine take_ (i := 4) (N := some 16) (v := ?_) (a' := ?_) zm6_6 rfl rfl (take_ofW HT_.out HW_.out (by kernel_rfl)) (fun _ _ _ h => h) (Or.inl ⟨by rfl, ?_⟩) hHeld ?_ ?_
       rotate_left
       ·
        rintro w' ⟨s0, s1, s2, s3, s4⟩
        go_simp
        with_reducible rfl
       rotate_left
       ·
        simp only [Act.put, List.setIfInBounds_toArray, List.set_cons_zero, List.set_cons_succ, i64_w, i32_w]
        rfl
       refine one_ (i := 6) (N := some 18) zm7_6 rfl rfl (one_of HT_.out (by kernel_rfl)) (by decide) (fun K hK => ?_)
       refine goes_ Try.func20 (by kernel_rfl) rfl #[.int .i64 x1_1] (by rfl) rfl rfl zb2_6 ?_
       with_reducible refine (laws_markText.calls k1 x1_1 t249 _ A5.out).mono ?_
       rintro e w38 ⟨rfl, hb⟩
       refine ⟨_, rfl, ?_⟩
       have n0_ := Aside0.mk (below_step zb3_6 hb)
       clear HB
       have HB := n0_
       clear n0_
       (try clear hb)
       (try clear hb2)
       (try clear hk)
       (try clear hi)
       refine hK.out _ _ ⟨((HB.out.cell (World.block_lt_of_cell? w _ hw248_0)).trans hw248_0), ((HB.out.cell (World.block_lt_of_cell? w _ hw248_1)).trans hw248_1), ((HB.out.cell (World.block_lt_of_cell? w _ hw248_2)).trans hw248_2), ((HB.out.cell (World.block_lt_of_cell? w _ hw248_3)).trans hw248_3), ((HB.out.cell (World.block_lt_of_cell? w _ hw248_4)).trans hw248_4)⟩ (fun hHeld => ?_)
       clear hK K
       refine norm_ (a' := ?_) ?_ ?_
       rotate_left
       ·
        show Act.put _ (some 18) _ = _
        simp only [Act.put, List.setIfInBounds_toArray, List.set_cons_zero, List.set_cons_succ, i64_w, i32_w]
        rfl
       refine zp_6 7 (some 19) zm8_6 HT_ ?_
       refine done_ (done_of HT_.out (by kernel_rfl)) ?_
       try go_wp2
       have n0_ := Aside0.mk (below_drew1 HB.out)
       clear HB
       have HB := n0_
       clear n0_
       have p250 : 0 ≤ (x5_1 : Int) := of_decide_eq_true zb1_6
       have q250 : x5_1 < (l0.length : Int) := of_decide_eq_true zb1_6
       obtain ⟨ad250, e250, hx250_0, hx250_1, hx250_2, hx250_3, hx250_4⟩ := at_T33 HR0.out x5_1 p250 q250
       have hw250_4 := hx250_4
       have hw250_3 := hx250_3
       have hw250_2 := hx250_2
       have hw250_1 := hx250_1
       have hw250_0 := hx250_0
       obtain rfl : ad248 = ad250 := (by injection e250)
       replace hx250_0 := (HB.out.cell (World.block_lt_of_cell? w _ hx250_0)).trans hx250_0
       replace hx250_1 := (HB.out.cell (World.block_lt_of_cell? w _ hx250_1)).trans hx250_1
       replace hx250_2 := (HB.out.cell (World.block_lt_of_cell? w _ hx250_2)).trans hx250_2
       replace hx250_3 := (HB.out.cell (World.block_lt_of_cell? w _ hx250_3)).trans hx250_3
       replace hx250_4 := (HB.out.cell (World.block_lt_of_cell? w _ hx250_4)).trans hx250_4
       replace p250 := eq_true p250
       replace q250 := eq_true q250
       refine start_ (n := 8) (S := fun w' => w'.cell? (ad248.add ((x5_1).toNat * 5)) = some (.string ((rd_T33 l0 x5_1).f0)) ∧ w'.cell? ⟨(ad248.add ((x5_1).toNat * 5)).block, (ad248.add ((x5_1).toNat * 5)).off + 1, none⟩ = some (.string ((rd_T33 l0 x5_1).f1)) ∧ w'.cell? ⟨(ad248.add ((x5_1).toNat * 5)).block, (ad248.add ((x5_1).toNat * 5)).off + 2, none⟩ = some (.string ((rd_T33 l0 x5_1).f2)) ∧ w'.cell? ⟨(ad248.add ((x5_1).toNat * 5)).block, (ad248.add ((x5_1).toNat * 5)).off + 3, none⟩ = some (.int .i64 ((rd_T33 l0 x5_1).f3)) ∧ w'.cell? ⟨(ad248.add ((x5_1).toNat * 5)).block, (ad248.add ((x5_1).toNat * 5)).off + 4, none⟩ = some (.bool ((rd_T33 l0 x5_1).f4))) (ds := []) zm0_6 (by kernel_rfl) rfl rfl ⟨((HB.out.cell (World.block_lt_of_cell? w _ hw250_0)).trans hw250_0), ((HB.out.cell (World.block_lt_of_cell? w _ hw250_1)).trans hw250_1), ((HB.out.cell (World.block_lt_of_cell? w _ hw250_2)).trans hw250_2), ((HB.out.cell (World.block_lt_of_cell? w _ hw250_3)).trans hw250_3), ((HB.out.cell (World.block_lt_of_cell? w _ hw250_4)).trans hw250_4)⟩ (fun hHeld => ?_); refine with_tabW laws_heldItemS.tab7 laws_heldItemS.bits7 (fun HT_ HW_ => ?_)
       generalize w38.drew = w39 at HB hx250_0 hx250_1 hx250_2 hx250_3 hx250_4 hHeld ⊢
       refine zp_6 0 (some 22) zm1_6 HT_ ?_
       refine zp_6 1 (some 23) zm2_6 HT_ ?_
       refine zp_6 2 (some 24) zm3_6 HT_ ?_
       refine zp_6 3 (some 25) zm4_6 HT_ ?_
       refine zp_6 5 (some 27) zm5_6 HT_ ?_
       refine take_ (i := 4) (N := some 26) (v := ?_) (a' := ?_) zm6_6 rfl rfl (take_ofW HT_.out HW_.out (by kernel_rfl)) (fun _ _ _ h => h) (Or.inl ⟨by rfl, ?_⟩) hHeld ?_ ?_
       rotate_left
       ·
        rintro w' ⟨s0, s1, s2, s3, s4⟩
        go_simp
        with_reducible rfl
       rotate_left
       ·
        simp only [Act.put, List.setIfInBounds_toArray, List.set_cons_zero, List.set_cons_succ, i64_w, i32_w]
        rfl
       refine one_ (i := 6) (N := some 28) zm7_6 rfl rfl (one_of HT_.out (by kernel_rfl)) (by decide) (fun K hK => ?_)
       refine goes_ Try.func20 (by kernel_rfl) rfl #[.int .i64 (wrap64 (x1_1 + 1))] (by rfl) rfl rfl zb2_6 ?_
       with_reducible refine (laws_markText.calls k1 (wrap64 (x1_1 + 1)) t251 _ A7.out).mono ?_
       rintro e w40 ⟨rfl, hb⟩
       refine ⟨_, rfl, ?_⟩
       have n0_ := Aside0.mk (below_step zb3_6 hb)
       clear HB
       have HB := n0_
       clear n0_
       (try clear hb)
       (try clear hb2)
       (try clear hk)
       (try clear hi)
       refine hK.out _ _ ⟨((HB.out.cell (World.block_lt_of_cell? w _ hw250_0)).trans hw250_0), ((HB.out.cell (World.block_lt_of_cell? w _ hw250_1)).trans hw250_1), ((HB.out.cell (World.block_lt_of_cell? w _ hw250_2)).trans hw250_2), ((HB.out.cell (World.block_lt_of_cell? w _ hw250_3)).trans hw250_3), ((HB.out.cell (World.block_lt_of_cell? w _ hw250_4)).trans hw250_4)⟩ (fun hHeld => ?_)
       clear hK K
       refine norm_ (a' := ?_) ?_ ?_
       rotate_left
       ·
        show Act.put _ (some 28) _ = _
        simp only [Act.put, List.setIfInBounds_toArray, List.set_cons_zero, List.set_cons_succ, i64_w, i32_w]
        rfl
       refine zp_6 7 (some 29) zm8_6 HT_ ?_
       refine done_ (done_of HT_.out (by kernel_rfl)) ?_
       try go_wp2
       go_ret
       exact ⟨by first | rfl | (simp [errW_none, errW_some] <;> rfl) | (simp [*, errW_none, errW_some] <;> rfl), by repeat (first | (with_reducible first | exact HB.out | apply below_alloc | apply pw_below_drewN | apply below_drew1) | exact HB.out)⟩
     ·
      rw [if_neg c6] at H
      have c6b0 : (((rd_T33 l0 x5_1).f0).toList == t249.toList) = false := beq_eq_false_iff_ne.mpr c6
      have c6b1 : (((rd_T33 l0 x5_1).f0).toList != t249.toList) = true := bne_iff_ne.mpr c6
      obtain rfl := Option.some.inj H
      try go_wp2
      have n0_ := Aside0.mk (below_drew1 HB.out)
      clear HB
      have HB := n0_
      clear n0_
      have p248 : 0 ≤ (x5_1 : Int) := of_decide_eq_true zb1_6
      have q248 : x5_1 < (l0.length : Int) := of_decide_eq_true zb1_6
      obtain ⟨ad248, e248, hx248_0, hx248_1, hx248_2, hx248_3, hx248_4⟩ := at_T33 HR0.out x5_1 p248 q248
      have hw248_4 := hx248_4
      have hw248_3 := hx248_3
      have hw248_2 := hx248_2
      have hw248_1 := hx248_1
      have hw248_0 := hx248_0
      cases e248
      replace hx248_0 := (HB.out.cell (World.block_lt_of_cell? w _ hx248_0)).trans hx248_0
      replace hx248_1 := (HB.out.cell (World.block_lt_of_cell? w _ hx248_1)).trans hx248_1
      replace hx248_2 := (HB.out.cell (World.block_lt_of_cell? w _ hx248_2)).trans hx248_2
      replace hx248_3 := (HB.out.cell (World.block_lt_of_cell? w _ hx248_3)).trans hx248_3
      replace hx248_4 := (HB.out.cell (World.block_lt_of_cell? w _ hx248_4)).trans hx248_4
      replace p248 := eq_true p248
      replace q248 := eq_true q248
      refine start_ (n := 8) (S := fun w' => w'.cell? (ad248.add ((x5_1).toNat * 5)) = some (.string ((rd_T33 l0 x5_1).f0)) ∧ w'.cell? ⟨(ad248.add ((x5_1).toNat * 5)).block, (ad248.add ((x5_1).toNat * 5)).off + 1, none⟩ = some (.string ((rd_T33 l0 x5_1).f1)) ∧ w'.cell? ⟨(ad248.add ((x5_1).toNat * 5)).block, (ad248.add ((x5_1).toNat * 5)).off + 2, none⟩ = some (.string ((rd_T33 l0 x5_1).f2)) ∧ w'.cell? ⟨(ad248.add ((x5_1).toNat * 5)).block, (ad248.add ((x5_1).toNat * 5)).off + 3, none⟩ = some (.int .i64 ((rd_T33 l0 x5_1).f3)) ∧ w'.cell? ⟨(ad248.add ((x5_1).toNat * 5)).block, (ad248.add ((x5_1).toNat * 5)).off + 4, none⟩ = some (.bool ((rd_T33 l0 x5_1).f4))) (ds := []) zm0_6 (by kernel_rfl) rfl rfl ⟨((HB.out.cell (World.block_lt_of_cell? w _ hw248_0)).trans hw248_0), ((HB.out.cell (World.block_lt_of_cell? w _ hw248_1)).trans hw248_1), ((HB.out.cell (World.block_lt_of_cell? w _ hw248_2)).trans hw248_2), ((HB.out.cell (World.block_lt_of_cell? w _ hw248_3)).trans hw248_3), ((HB.out.cell (World.block_lt_of_cell? w _ hw248_4)).trans hw248_4)⟩ (fun hHeld => ?_); refine with_tabW laws_heldItemS.tab4 laws_heldItemS.bits4 (fun HT_ HW_ => ?_)
      generalize wr.drew = w41 at HB hx248_0 hx248_1 hx248_2 hx248_3 hx248_4 hHeld ⊢
      refine zp_6 0 (some 12) zm1_6 HT_ ?_
      refine zp_6 1 (some 13) zm2_6 HT_ ?_
      refine zp_6 2 (some 14) zm3_6 HT_ ?_
      refine zp_6 3 (some 15) zm4_6 HT_ ?_
      refine zp_6 5 (some 17) zm5_6 HT_ ?_
      refine take_ (i := 4) (N := some 16) (v := ?_) (a' := ?_) zm6_6 rfl rfl (take_ofW HT_.out HW_.out (by kernel_rfl)) (fun _ _ _ h => h) (Or.inl ⟨by rfl, ?_⟩) hHeld ?_ ?_
      rotate_left
      ·
       rintro w' ⟨s0, s1, s2, s3, s4⟩
       go_simp
       with_reducible rfl
      rotate_left
      ·
       simp only [Act.put, List.setIfInBounds_toArray, List.set_cons_zero, List.set_cons_succ, i64_w, i32_w]
       rfl
      refine one_ (i := 6) (N := some 18) zm7_6 rfl rfl (one_of HT_.out (by kernel_rfl)) (by decide) (fun K hK => ?_)
      refine goes_ Try.func20 (by kernel_rfl) rfl #[.int .i64 x1_1] (by rfl) rfl rfl zb2_6 ?_
      with_reducible refine (laws_markText.calls k1 x1_1 t249 _ A5.out).mono ?_
      rintro e w42 ⟨rfl, hb⟩
      refine ⟨_, rfl, ?_⟩
      have n0_ := Aside0.mk (below_step zb3_6 hb)
      clear HB
      have HB := n0_
      clear n0_
      (try clear hb)
      (try clear hb2)
      (try clear hk)
      (try clear hi)
      refine hK.out _ _ ⟨((HB.out.cell (World.block_lt_of_cell? w _ hw248_0)).trans hw248_0), ((HB.out.cell (World.block_lt_of_cell? w _ hw248_1)).trans hw248_1), ((HB.out.cell (World.block_lt_of_cell? w _ hw248_2)).trans hw248_2), ((HB.out.cell (World.block_lt_of_cell? w _ hw248_3)).trans hw248_3), ((HB.out.cell (World.block_lt_of_cell? w _ hw248_4)).trans hw248_4)⟩ (fun hHeld => ?_)
      clear hK K
      refine norm_ (a' := ?_) ?_ ?_
      rotate_left
      ·
       show Act.put _ (some 18) _ = _
       simp only [Act.put, List.setIfInBounds_toArray, List.set_cons_zero, List.set_cons_succ, i64_w, i32_w]
       rfl
      refine zp_6 7 (some 19) zm8_6 HT_ ?_
      refine done_ (done_of HT_.out (by kernel_rfl)) ?_
      try go_wp2
      go_ret
      exact ⟨by first | rfl | (simp [errW_none, errW_some] <;> rfl) | (simp [*, errW_none, errW_some] <;> rfl), by repeat (first | (with_reducible first | exact HB.out | apply below_alloc | apply pw_below_drewN | apply below_drew1) | exact HB.out)⟩
    ·
     rw [if_neg c4] at H
     exact absurd H (by simp)
   ·
    rw [if_neg c3] at H
    have c3b0 : decide (x5_1 < (l0.length : Int)) = false := decide_eq_false c3
    clear c3
    obtain rfl := Option.some.inj H
    go_wp2
    go_ret
    exact ⟨by first | rfl | (simp [errW_none, errW_some] <;> rfl) | (simp [*, errW_none, errW_some] <;> rfl), by repeat (first | (with_reducible first | exact HB.out | apply below_alloc | apply pw_below_drewN | apply below_drew1) | exact HB.out)⟩

end Go.Proofs.Ytgfmapilimlamaa.QFnExactRosterFollow
