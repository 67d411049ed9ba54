-- laid by this session's own runner (wip/print2.py): not a printed file
import Derived.Test.YtjchggdekbnmnaaDoorQFnExactDbOpenx0
import Derived.Test.YtjchggdekbnmnaaDoorQFnExactDbOpenx8
namespace Go.Proofs.YtjchggdekbnmnaaDoor.QFnExactDbOpen
open Go.RowKit Go.Proofs.YtjchggdekbnmnaaDoorW.PrintWords Go.Proofs.YtjchggdekbnmnaaDoorW.PrintLast Go.Proofs.YtjchggdekbnmnaaDoorW.PrintMore
attribute [local go_sem] max2_int min2_int max_two min_two max_three min_three max_four min_four   -- for this text's walks alone
set_option linter.unusedVariables false
set_option linter.unusedSimpArgs false

theorem zp_9 {P : Program} {md : Region.Mode} {ops : Array Oper} {Q : Exit → Act → World → Prop} {S : World → Prop} {ds : List Nat} {T : Bool × List (List Nat × List Nat)} {fuel : Nat} {l : Array Bool} {a : Act} {w : World} {oi : Oper} {v : Value} {a' : Act} (i : Nat) (N : Option Tmp) (l' : Array Bool) (hT : Aside0 (rtab md ops = T))
    (h : wpAnyLast P md ops Q S ds fuel l' a' w) (hc : anyT T l.toList l'.toList i = true := by kernel_rfl) (hi : ops[i]? = some oi := by rfl) (hN : oi.dst = N := by rfl) (hQ : ∀ c a w, Q (.panic c) (a.put oi.dst v) w → Q (.panic c) a w := by exact fun _ _ _ h => h)
    (hy : Yields P ops oi v a := by (refine Or.inl ⟨by rfl, ?_⟩; intro w'; go_simp; with_reducible rfl)) (ha : a.put N v = a' := by (simp only [Act.put, List.setIfInBounds_toArray, List.set_cons_zero, List.set_cons_succ, i64_w, i32_w]; rfl)) : wpAnyLast P md ops Q S ds (fuel + 1) l a w :=
  pure_ l' hi hN (any_of hT.out hc) hQ hy ha h
theorem zu_9 {P : Program} {md : Region.Mode} {ops : Array Oper} {Q : Exit → Act → World → Prop} {S : World → Prop} {ds : List Nat} {T : Bool × List (List Nat × List Nat)} {fuel : Nat} {l : Array Bool} {a : Act} {w : World} {oi : Oper} {a' : Act} (i : Nat) (N : Option Tmp) (l' : Array Bool) (hT : Aside0 (rtab md ops = T))
    (h : wpAnyLast P md ops Q S ds fuel l' a' w) (hc : anyT T l.toList l'.toList i = true := by kernel_rfl) (hi : ops[i]? = some oi := by rfl) (hN : oi.dst = N := by rfl) (hQ : ∀ c a w, Q (.panic c) (a.put oi.dst undef) w → Q (.panic c) a w := by exact fun _ _ _ h => h)
    (hy : Yields P ops oi undef a := by exact Or.inr ⟨by rfl, rfl⟩) (ha : a.put N undef = a' := by (simp only [Act.put, List.setIfInBounds_toArray, List.set_cons_zero, List.set_cons_succ, i64_w, i32_w]; rfl)) : wpAnyLast P md ops Q S ds (fuel + 1) l a w :=
  pure_ l' hi hN (any_of hT.out hc) hQ hy ha h
abbrev zm0_9 : Array Bool := #[false, false, false, false, false, false, false, false]
abbrev zm1_9 : Array Bool := #[true, false, false, false, false, false, false, false]
abbrev zm2_9 : Array Bool := #[true, true, false, false, false, false, false, false]
abbrev zm3_9 : Array Bool := #[true, true, true, false, false, false, false, false]
abbrev zm4_9 : Array Bool := #[true, true, true, true, false, false, false, false]
abbrev zm5_9 : Array Bool := #[true, true, true, true, false, true, false, false]
abbrev zm6_9 : Array Bool := #[true, true, true, true, true, true, false, false]
abbrev zm7_9 : Array Bool := #[true, true, true, true, true, true, true, false]
abbrev zm8_9 : Array Bool := #[true, true, true, true, true, true, true, true]
theorem zb0_9 {P : Prop} (h : P := by first | rfl | (simp; done) | (simp [*]; done)) : P := h
theorem zb1_9 {P : Prop} (h : P := by first | (with_reducible assumption) | assumption) : P := h
theorem zb2_9 {P : Prop} (h : P := by (try simp only [List.map_toArray, List.map_cons, List.map_nil]); first | done | rfl | (simp only [List.length_drop, List.length_take]; rfl)) : P := h
theorem zb3_9 {P : Prop} (h : P := by repeat (first | (with_reducible first | exact HB.out | apply below_alloc | apply pw_below_drewN | apply below_drew1) | exact HB.out)) : P := h
/-! ### laws_heldPeerS: function 79 -/
def laws_heldPeerS.l0 : Nat → List (S71) → Int → Int → Option (Int)
 | 0, _, _, _ => none
 | k + 1, x0, x1, x5 => if x5 < (x0.length : Int) then (if 0 ≤ x5 then ((laws_markText.f k x1).bind fun t272 => (if ((rd_T71 x0 x5).f0).toList = t272.toList then (if ((rd_T71 x0 x5).f1) = (wrap64 (x1 + 1)) then (if ((rd_T71 x0 x5).f2) = (wrap64 ((wrap64 (x1 + 1)) + 1)) then ((laws_markText.f k (wrap64 ((wrap64 ((wrap64 (x1 + 1)) + 1)) + 1))).bind fun t276 => (if ((rd_T71 x0 x5).f3).toList = t276.toList then (laws_heldPeerS.l0 k x0 (wrap64 ((wrap64 ((wrap64 ((wrap64 (x1 + 1)) + 1)) + 1)) + 1)) (wrap64 (x5 + 1))) else (some (-1)))) else (some (-1))) else (some (-1))) else (some (-1)))) else (none)) else (some x1)
def laws_heldPeerS.f (k : Nat) (l0 : List (S71)) (a1 : Int) : Option (Int) := laws_heldPeerS.l0 k l0 a1 0
theorem laws_heldPeerS.mono_l : ∀ k, (∀ y0 y1 y2, LeO (laws_heldPeerS.l0 k y0 y1 y2) (laws_heldPeerS.l0 (k + 1) y0 y1 y2))
 | 0 => fun _ _ _ r h => by simp [laws_heldPeerS.l0] at h
 | k + 1 => by
  have ih0 := laws_heldPeerS.mono_l k
  ·
   intro y0 y1 y2
   unfold laws_heldPeerS.l0
   repeat' first
   | (with_reducible exact ih0 _ _ _)
   | (with_reducible exact laws_markText.mono _ _)
   | (with_reducible exact LeO.refl _)
   | (with_reducible exact LeO.none _)
   | (with_reducible refine LeO.ite ?_ ?_)
   | (with_reducible refine LeO.bind ?_ (fun _ => ?_))
   | exact ih0 _ _ _
   | exact laws_markText.mono _ _
   | exact LeO.none _
   | refine LeO.ite ?_ ?_
   | refine LeO.bind ?_ (fun _ => ?_)
theorem laws_heldPeerS.mono : ∀ a0 a1 k, LeO (laws_heldPeerS.f k a0 a1) (laws_heldPeerS.f (k + 1) a0 a1) := by
 intro a0 a1 k
 have ih0 := laws_heldPeerS.mono_l k
 unfold laws_heldPeerS.f
 repeat' first
   | (with_reducible exact ih0 _ _ _)
   | (with_reducible exact laws_markText.mono _ _)
   | (with_reducible exact LeO.refl _)
   | (with_reducible exact LeO.none _)
   | (with_reducible refine LeO.ite ?_ ?_)
   | (with_reducible refine LeO.bind ?_ (fun _ => ?_))
   | exact ih0 _ _ _
   | exact laws_markText.mono _ _
   | exact LeO.none _
   | refine LeO.ite ?_ ?_
   | refine LeO.bind ?_ (fun _ => ?_)
def laws_heldPeerS.T4 : Bool × List (List Nat × List Nat) := (true, [([], []), ([], []), ([0, 1], [0, 1]), ([2], [2]), ([3], [3]), ([], []), ([5], [5]), ([4, 6], [4, 6])])
def laws_heldPeerS.B4 : List Nat := [0, 0, 3, 7, 15, 0, 32, 127]
theorem laws_heldPeerS.tab4 : rtab .any (opsOf Tryd.f79 4) = laws_heldPeerS.T4 := by kernel_rfl
theorem laws_heldPeerS.bits4 : waitsOk laws_heldPeerS.T4.2 laws_heldPeerS.B4 = true := by kernel_rfl
def laws_heldPeerS.T13 : Bool × List (List Nat × List Nat) := (true, [([], []), ([], []), ([0, 1], [0, 1]), ([2], [2]), ([3], [3]), ([], []), ([5], [5]), ([4, 6], [4, 6])])
def laws_heldPeerS.B13 : List Nat := [0, 0, 3, 7, 15, 0, 32, 127]
theorem laws_heldPeerS.tab13 : rtab .any (opsOf Tryd.f79 13) = laws_heldPeerS.T13 := by kernel_rfl
theorem laws_heldPeerS.bits13 : waitsOk laws_heldPeerS.T13.2 laws_heldPeerS.B13 = true := by kernel_rfl
set_option maxHeartbeats 8000000 in
set_option maxRecDepth 100000 in
theorem laws_heldPeerS.calls (k : Nat) (A0 : Option Addr) (c0 : Nat) (l0 : List (S71)) (a1 : Int) (r : Int) (w : World) (hr0 : Kd.C k71 w A0 l0.length l0) (hc0 : l0.length ≤ c0) (h : laws_heldPeerS.f k l0 a1 = some r) :
  Calls Tryd.prog 79 #[.slice A0 l0.length c0, .int .i64 a1] w fun e w' => e = .returned (.int .i64 r) ∧ Below w.heap.size w w' := by
 have HR0 := Aside0.mk hr0
 have HC0 := Aside0.mk hc0
 clear hr0 hc0
 have HB := Aside0.mk (Below.refl w.heap.size w)
 have H : (laws_heldPeerS.l0 k l0 a1 0) = some r := h
 clear h
 have H' := Aside0.mk H
 clear H
 go_enter Tryd.func79, Tryd.ntmps79
 go_wp2
 go_loopg [1, 5] k (fun kq v1 v5 w' => ∃ (x1_1 : Int) (x5_1 : Int), v1 = .int .i64 x1_1 ∧ v5 = .int .i64 x5_1 ∧ Aside0 (laws_heldPeerS.l0 kq l0 x1_1 x5_1 = some r) ∧ Aside0 (kq ≤ k) ∧ Aside0 (Below w.heap.size w w'))
 case atStart => exact ⟨(a1), (0), zb0_9, zb0_9, H', ⟨Nat.le_refl _⟩, ⟨by repeat (first | (with_reducible first | exact HB.out | apply below_alloc | apply pw_below_drewN | apply below_drew1) | exact HB.out)⟩⟩
 case round =>
  clear H'
  try clear p2
  obtain ⟨x1_1, x5_1, rfl, rfl, HA, HK1, HB⟩ := hrel
  cases gk with
  | zero => exact absurd HA.out (by simp [laws_heldPeerS.l0])
  | succ k1 =>
   have H := HA.out
   clear HA
   simp only [laws_heldPeerS.l0] at H
   by_cases c3 : x5_1 < (l0.length : Int)
   ·
    rw [if_pos c3] at H
    have c3b0 : decide (x5_1 < (l0.length : Int)) = true := decide_eq_true c3
    clear c3
    by_cases c4 : 0 ≤ x5_1
    ·
     rw [if_pos c4] at H
     have c4b0 : decide (0 ≤ x5_1) = true := decide_eq_true c4
     clear c4
     replace H := Option.bind_eq_some_iff.mp H
     obtain ⟨t272, A50, H⟩ := H
     replace H : (if ((rd_T71 l0 x5_1).f0).toList = t272.toList then (if ((rd_T71 l0 x5_1).f1) = (wrap64 (x1_1 + 1)) then (if ((rd_T71 l0 x5_1).f2) = (wrap64 ((wrap64 (x1_1 + 1)) + 1)) then ((laws_markText.f k1 (wrap64 ((wrap64 ((wrap64 (x1_1 + 1)) + 1)) + 1))).bind fun t276 => (if ((rd_T71 l0 x5_1).f3).toList = t276.toList then (laws_heldPeerS.l0 k1 l0 (wrap64 ((wrap64 ((wrap64 ((wrap64 (x1_1 + 1)) + 1)) + 1)) + 1)) (wrap64 (x5_1 + 1))) else (some (-1)))) else (some (-1))) else (some (-1))) else (some (-1))) = some r := H
     have A5 := Aside0.mk A50
     clear A50
     by_cases c6 : ((rd_T71 l0 x5_1).f0).toList = t272.toList
     ·
      rw [if_pos c6] at H
      have c6b0 : (((rd_T71 l0 x5_1).f0).toList == t272.toList) = true := beq_iff_eq.mpr c6
      have c6b1 : (((rd_T71 l0 x5_1).f0).toList != t272.toList) = false := bne_eq_false_iff_eq.mpr c6
      clear c6
      by_cases c7 : ((rd_T71 l0 x5_1).f1) = (wrap64 (x1_1 + 1))
      ·
       rw [if_pos c7] at H
       have c7b0 : (((rd_T71 l0 x5_1).f1) == (wrap64 (x1_1 + 1))) = true := beq_iff_eq.mpr c7
       have c7b1 : (((rd_T71 l0 x5_1).f1) != (wrap64 (x1_1 + 1))) = false := bne_eq_false_iff_eq.mpr c7
       clear c7
       by_cases c8 : ((rd_T71 l0 x5_1).f2) = (wrap64 ((wrap64 (x1_1 + 1)) + 1))
       ·
        rw [if_pos c8] at H
        have c8b0 : (((rd_T71 l0 x5_1).f2) == (wrap64 ((wrap64 (x1_1 + 1)) + 1))) = true := beq_iff_eq.mpr c8
        have c8b1 : (((rd_T71 l0 x5_1).f2) != (wrap64 ((wrap64 (x1_1 + 1)) + 1))) = false := bne_eq_false_iff_eq.mpr c8
        clear c8
        replace H := Option.bind_eq_some_iff.mp H
        obtain ⟨t276, A90, H⟩ := H
        replace H : (if ((rd_T71 l0 x5_1).f3).toList = t276.toList then (laws_heldPeerS.l0 k1 l0 (wrap64 ((wrap64 ((wrap64 ((wrap64 (x1_1 + 1)) + 1)) + 1)) + 1)) (wrap64 (x5_1 + 1))) else (some (-1))) = some r := H
        have A9 := Aside0.mk A90
        clear A90
        by_cases c10 : ((rd_T71 l0 x5_1).f3).toList = t276.toList
        ·
         rw [if_pos c10] at H
         have c10b0 : (((rd_T71 l0 x5_1).f3).toList == t276.toList) = true := beq_iff_eq.mpr c10
         have c10b1 : (((rd_T71 l0 x5_1).f3).toList != t276.toList) = false := bne_eq_false_iff_eq.mpr c10
         clear c10
         have H' := Aside0.mk H
         clear H
         try go_wp2
         have n0_ := Aside0.mk (below_drew1 HB.out)
         clear HB
         have HB := n0_
         clear n0_
         have p271 : 0 ≤ (x5_1 : Int) := of_decide_eq_true zb1_9
         have q271 : x5_1 < (l0.length : Int) := of_decide_eq_true zb1_9
         obtain ⟨ad271, e271, hx271_0, hx271_1, hx271_2, hx271_3⟩ := at_T71 HR0.out x5_1 p271 q271
         have hw271_3 := hx271_3
         have hw271_2 := hx271_2
         have hw271_1 := hx271_1
         have hw271_0 := hx271_0
         cases e271
         replace hx271_0 := (HB.out.cell (World.block_lt_of_cell? w _ hx271_0)).trans hx271_0
         replace hx271_1 := (HB.out.cell (World.block_lt_of_cell? w _ hx271_1)).trans hx271_1
         replace hx271_2 := (HB.out.cell (World.block_lt_of_cell? w _ hx271_2)).trans hx271_2
         replace hx271_3 := (HB.out.cell (World.block_lt_of_cell? w _ hx271_3)).trans hx271_3
         replace p271 := eq_true p271
         replace q271 := eq_true q271
         refine start_ (n := 8) (S := fun w' => w'.cell? (ad271.add ((x5_1).toNat * 4)) = some (.string ((rd_T71 l0 x5_1).f0)) ∧ w'.cell? ⟨(ad271.add ((x5_1).toNat * 4)).block, (ad271.add ((x5_1).toNat * 4)).off + 1, none⟩ = some (.int .i64 ((rd_T71 l0 x5_1).f1)) ∧ w'.cell? ⟨(ad271.add ((x5_1).toNat * 4)).block, (ad271.add ((x5_1).toNat * 4)).off + 2, none⟩ = some (.int .i64 ((rd_T71 l0 x5_1).f2)) ∧ w'.cell? ⟨(ad271.add ((x5_1).toNat * 4)).block, (ad271.add ((x5_1).toNat * 4)).off + 3, none⟩ = some (.string ((rd_T71 l0 x5_1).f3))) (ds := []) zm0_9 (by kernel_rfl) rfl rfl ⟨((HB.out.cell (World.block_lt_of_cell? w _ hw271_0)).trans hw271_0), ((HB.out.cell (World.block_lt_of_cell? w _ hw271_1)).trans hw271_1), ((HB.out.cell (World.block_lt_of_cell? w _ hw271_2)).trans hw271_2), ((HB.out.cell (World.block_lt_of_cell? w _ hw271_3)).trans hw271_3)⟩ (fun hHeld => ?_); refine with_tabW laws_heldPeerS.tab4 laws_heldPeerS.bits4 (fun HT_ HW_ => ?_)
         generalize wr.drew = w11 at HB hx271_0 hx271_1 hx271_2 hx271_3 hHeld ⊢
         refine zp_9 0 (some 12) zm1_9 HT_ ?_
         refine zp_9 1 (some 13) zm2_9 HT_ ?_
         refine zp_9 2 (some 14) zm3_9 HT_ ?_
         refine zp_9 3 (some 15) zm4_9 HT_ ?_
         refine zp_9 5 (some 17) zm5_9 HT_ ?_
         refine take_ (i := 4) (N := some 16) (v := ?_) (a' := ?_) zm6_9 rfl rfl (take_ofW HT_.out HW_.out (by kernel_rfl)) (fun _ _ _ h => h) (Or.inl ⟨by rfl, ?_⟩) hHeld ?_ ?_
         rotate_left
         ·
          rintro w' ⟨s0, s1, s2, s3⟩
          go_simp
          with_reducible rfl
         rotate_left
         ·
          simp only [Act.put, List.setIfInBounds_toArray, List.set_cons_zero, List.set_cons_succ, i64_w, i32_w]
          rfl
         refine one_ (i := 6) (N := some 18) zm7_9 rfl rfl (one_of HT_.out (by kernel_rfl)) (by decide) (fun K hK => ?_)
         refine goes_ Tryd.func78 (by kernel_rfl) rfl #[.int .i64 x1_1] (by rfl) rfl rfl zb2_9 ?_
         with_reducible refine (laws_markText.calls k1 x1_1 t272 _ A5.out).mono ?_
         rintro e w12 ⟨rfl, hb⟩
         refine ⟨_, rfl, ?_⟩
         have n0_ := Aside0.mk (below_step zb3_9 hb)
         clear HB
         have HB := n0_
         clear n0_
         (try clear hb)
         (try clear hb2)
         (try clear hk)
         (try clear hi)
         refine hK.out _ _ ⟨((HB.out.cell (World.block_lt_of_cell? w _ hw271_0)).trans hw271_0), ((HB.out.cell (World.block_lt_of_cell? w _ hw271_1)).trans hw271_1), ((HB.out.cell (World.block_lt_of_cell? w _ hw271_2)).trans hw271_2), ((HB.out.cell (World.block_lt_of_cell? w _ hw271_3)).trans hw271_3)⟩ (fun hHeld => ?_)
         clear hK K
         refine norm_ (a' := ?_) ?_ ?_
         rotate_left
         ·
          show Act.put _ (some 18) _ = _
          simp only [Act.put, List.setIfInBounds_toArray, List.set_cons_zero, List.set_cons_succ, i64_w, i32_w]
          rfl
         refine zp_9 7 (some 19) zm8_9 HT_ ?_
         refine done_ (done_of HT_.out (by kernel_rfl)) ?_
         have p273 : 0 ≤ (x5_1 : Int) := of_decide_eq_true zb1_9
         have q273 : x5_1 < (l0.length : Int) := of_decide_eq_true zb1_9
         obtain ⟨ad273, e273, hx273_0, hx273_1, hx273_2, hx273_3⟩ := at_T71 HR0.out x5_1 p273 q273
         obtain rfl : ad271 = ad273 := (by injection e273)
         replace hx273_0 := (HB.out.cell (World.block_lt_of_cell? w _ hx273_0)).trans hx273_0
         replace hx273_1 := (HB.out.cell (World.block_lt_of_cell? w _ hx273_1)).trans hx273_1
         replace hx273_2 := (HB.out.cell (World.block_lt_of_cell? w _ hx273_2)).trans hx273_2
         replace hx273_3 := (HB.out.cell (World.block_lt_of_cell? w _ hx273_3)).trans hx273_3
         replace p273 := eq_true p273
         replace q273 := eq_true q273
         have p274 : 0 ≤ (x5_1 : Int) := of_decide_eq_true zb1_9
         have q274 : x5_1 < (l0.length : Int) := of_decide_eq_true zb1_9
         obtain ⟨ad274, e274, hx274_0, hx274_1, hx274_2, hx274_3⟩ := at_T71 HR0.out x5_1 p274 q274
         obtain rfl : ad271 = ad274 := (by injection e274)
         replace hx274_0 := (HB.out.cell (World.block_lt_of_cell? w _ hx274_0)).trans hx274_0
         replace hx274_1 := (HB.out.cell (World.block_lt_of_cell? w _ hx274_1)).trans hx274_1
         replace hx274_2 := (HB.out.cell (World.block_lt_of_cell? w _ hx274_2)).trans hx274_2
         replace hx274_3 := (HB.out.cell (World.block_lt_of_cell? w _ hx274_3)).trans hx274_3
         replace p274 := eq_true p274
         replace q274 := eq_true q274
         try go_wp2
         have n0_ := Aside0.mk (below_drew1 HB.out)
         clear HB
         have HB := n0_
         clear n0_
         have p275 : 0 ≤ (x5_1 : Int) := of_decide_eq_true zb1_9
         have q275 : x5_1 < (l0.length : Int) := of_decide_eq_true zb1_9
         obtain ⟨ad275, e275, hx275_0, hx275_1, hx275_2, hx275_3⟩ := at_T71 HR0.out x5_1 p275 q275
         have hw275_3 := hx275_3
         have hw275_2 := hx275_2
         have hw275_1 := hx275_1
         have hw275_0 := hx275_0
         obtain rfl : ad271 = ad275 := (by injection e275)
         replace hx275_0 := (HB.out.cell (World.block_lt_of_cell? w _ hx275_0)).trans hx275_0
         replace hx275_1 := (HB.out.cell (World.block_lt_of_cell? w _ hx275_1)).trans hx275_1
         replace hx275_2 := (HB.out.cell (World.block_lt_of_cell? w _ hx275_2)).trans hx275_2
         replace hx275_3 := (HB.out.cell (World.block_lt_of_cell? w _ hx275_3)).trans hx275_3
         replace p275 := eq_true p275
         replace q275 := eq_true q275
         refine start_ (n := 8) (S := fun w' => w'.cell? (ad271.add ((x5_1).toNat * 4)) = some (.string ((rd_T71 l0 x5_1).f0)) ∧ w'.cell? ⟨(ad271.add ((x5_1).toNat * 4)).block, (ad271.add ((x5_1).toNat * 4)).off + 1, none⟩ = some (.int .i64 ((rd_T71 l0 x5_1).f1)) ∧ w'.cell? ⟨(ad271.add ((x5_1).toNat * 4)).block, (ad271.add ((x5_1).toNat * 4)).off + 2, none⟩ = some (.int .i64 ((rd_T71 l0 x5_1).f2)) ∧ w'.cell? ⟨(ad271.add ((x5_1).toNat * 4)).block, (ad271.add ((x5_1).toNat * 4)).off + 3, none⟩ = some (.string ((rd_T71 l0 x5_1).f3))) (ds := []) zm0_9 (by kernel_rfl) rfl rfl ⟨((HB.out.cell (World.block_lt_of_cell? w _ hw275_0)).trans hw275_0), ((HB.out.cell (World.block_lt_of_cell? w _ hw275_1)).trans hw275_1), ((HB.out.cell (World.block_lt_of_cell? w _ hw275_2)).trans hw275_2), ((HB.out.cell (World.block_lt_of_cell? w _ hw275_3)).trans hw275_3)⟩ (fun hHeld => ?_); refine with_tabW laws_heldPeerS.tab13 laws_heldPeerS.bits13 (fun HT_ HW_ => ?_)
         generalize w12.drew = w13 at HB hx275_0 hx275_1 hx275_2 hx275_3 hHeld ⊢
         refine zp_9 0 (some 40) zm1_9 HT_ ?_
         refine zp_9 1 (some 41) zm2_9 HT_ ?_
         refine zp_9 2 (some 42) zm3_9 HT_ ?_
         refine zp_9 3 (some 43) zm4_9 HT_ ?_
         refine zp_9 5 (some 45) zm5_9 HT_ ?_
         refine take_ (i := 4) (N := some 44) (v := ?_) (a' := ?_) zm6_9 rfl rfl (take_ofW HT_.out HW_.out (by kernel_rfl)) (fun _ _ _ h => h) (Or.inl ⟨by rfl, ?_⟩) hHeld ?_ ?_
         rotate_left
         ·
          rintro w' ⟨s0, s1, s2, s3⟩
          go_simp
          with_reducible rfl
         rotate_left
         ·
          simp only [Act.put, List.setIfInBounds_toArray, List.set_cons_zero, List.set_cons_succ, i64_w, i32_w]
          rfl
         refine one_ (i := 6) (N := some 46) zm7_9 rfl rfl (one_of HT_.out (by kernel_rfl)) (by decide) (fun K hK => ?_)
         refine goes_ Tryd.func78 (by kernel_rfl) rfl #[.int .i64 (wrap64 ((wrap64 ((wrap64 (x1_1 + 1)) + 1)) + 1))] (by rfl) rfl rfl zb2_9 ?_
         with_reducible refine (laws_markText.calls k1 (wrap64 ((wrap64 ((wrap64 (x1_1 + 1)) + 1)) + 1)) t276 _ A9.out).mono ?_
         rintro e w14 ⟨rfl, hb⟩
         refine ⟨_, rfl, ?_⟩
         have n0_ := Aside0.mk (below_step zb3_9 hb)
         clear HB
         have HB := n0_
         clear n0_
         (try clear hb)
         (try clear hb2)
         (try clear hk)
         (try clear hi)
         refine hK.out _ _ ⟨((HB.out.cell (World.block_lt_of_cell? w _ hw275_0)).trans hw275_0), ((HB.out.cell (World.block_lt_of_cell? w _ hw275_1)).trans hw275_1), ((HB.out.cell (World.block_lt_of_cell? w _ hw275_2)).trans hw275_2), ((HB.out.cell (World.block_lt_of_cell? w _ hw275_3)).trans hw275_3)⟩ (fun hHeld => ?_)
         clear hK K
         refine norm_ (a' := ?_) ?_ ?_
         rotate_left
         ·
          show Act.put _ (some 46) _ = _
          simp only [Act.put, List.setIfInBounds_toArray, List.set_cons_zero, List.set_cons_succ, i64_w, i32_w]
          rfl
         refine zp_9 7 (some 47) zm8_9 HT_ ?_
         refine done_ (done_of HT_.out (by kernel_rfl)) ?_
         try go_wp2
         go_roundg k1
         case measure => have := HK1.out; omega
         case rel => exact ⟨(wrap64 ((wrap64 ((wrap64 ((wrap64 (x1_1 + 1)) + 1)) + 1)) + 1)), (wrap64 (x5_1 + 1)), zb0_9, zb0_9, H', ⟨by have := HK1.out; omega⟩, ⟨by repeat (first | (with_reducible first | exact HB.out | apply below_alloc | apply pw_below_drewN | apply below_drew1) | exact HB.out)⟩⟩
        ·
         rw [if_neg c10] at H
         have c10b0 : (((rd_T71 l0 x5_1).f3).toList == t276.toList) = false := beq_eq_false_iff_ne.mpr c10
         have c10b1 : (((rd_T71 l0 x5_1).f3).toList != t276.toList) = true := bne_iff_ne.mpr c10
         obtain rfl := Option.some.inj H
         try go_wp2
         have n0_ := Aside0.mk (below_drew1 HB.out)
         clear HB
         have HB := n0_
         clear n0_
         have p271 : 0 ≤ (x5_1 : Int) := of_decide_eq_true zb1_9
         have q271 : x5_1 < (l0.length : Int) := of_decide_eq_true zb1_9
         obtain ⟨ad271, e271, hx271_0, hx271_1, hx271_2, hx271_3⟩ := at_T71 HR0.out x5_1 p271 q271
         have hw271_3 := hx271_3
         have hw271_2 := hx271_2
         have hw271_1 := hx271_1
         have hw271_0 := hx271_0
         cases e271
         replace hx271_0 := (HB.out.cell (World.block_lt_of_cell? w _ hx271_0)).trans hx271_0
         replace hx271_1 := (HB.out.cell (World.block_lt_of_cell? w _ hx271_1)).trans hx271_1
         replace hx271_2 := (HB.out.cell (World.block_lt_of_cell? w _ hx271_2)).trans hx271_2
         replace hx271_3 := (HB.out.cell (World.block_lt_of_cell? w _ hx271_3)).trans hx271_3
         replace p271 := eq_true p271
         replace q271 := eq_true q271
         refine start_ (n := 8) (S := fun w' => w'.cell? (ad271.add ((x5_1).toNat * 4)) = some (.string ((rd_T71 l0 x5_1).f0)) ∧ w'.cell? ⟨(ad271.add ((x5_1).toNat * 4)).block, (ad271.add ((x5_1).toNat * 4)).off + 1, none⟩ = some (.int .i64 ((rd_T71 l0 x5_1).f1)) ∧ w'.cell? ⟨(ad271.add ((x5_1).toNat * 4)).block, (ad271.add ((x5_1).toNat * 4)).off + 2, none⟩ = some (.int .i64 ((rd_T71 l0 x5_1).f2)) ∧ w'.cell? ⟨(ad271.add ((x5_1).toNat * 4)).block, (ad271.add ((x5_1).toNat * 4)).off + 3, none⟩ = some (.string ((rd_T71 l0 x5_1).f3))) (ds := []) zm0_9 (by kernel_rfl) rfl rfl ⟨((HB.out.cell (World.block_lt_of_cell? w _ hw271_0)).trans hw271_0), ((HB.out.cell (World.block_lt_of_cell? w _ hw271_1)).trans hw271_1), ((HB.out.cell (World.block_lt_of_cell? w _ hw271_2)).trans hw271_2), ((HB.out.cell (World.block_lt_of_cell? w _ hw271_3)).trans hw271_3)⟩ (fun hHeld => ?_); refine with_tabW laws_heldPeerS.tab4 laws_heldPeerS.bits4 (fun HT_ HW_ => ?_)
         generalize wr.drew = w15 at HB hx271_0 hx271_1 hx271_2 hx271_3 hHeld ⊢
         refine zp_9 0 (some 12) zm1_9 HT_ ?_
         refine zp_9 1 (some 13) zm2_9 HT_ ?_
         refine zp_9 2 (some 14) zm3_9 HT_ ?_
         refine zp_9 3 (some 15) zm4_9 HT_ ?_
         refine zp_9 5 (some 17) zm5_9 HT_ ?_
         refine take_ (i := 4) (N := some 16) (v := ?_) (a' := ?_) zm6_9 rfl rfl (take_ofW HT_.out HW_.out (by kernel_rfl)) (fun _ _ _ h => h) (Or.inl ⟨by rfl, ?_⟩) hHeld ?_ ?_
         rotate_left
         ·
          rintro w' ⟨s0, s1, s2, s3⟩
          go_simp
          with_reducible rfl
         rotate_left
         ·
          simp only [Act.put, List.setIfInBounds_toArray, List.set_cons_zero, List.set_cons_succ, i64_w, i32_w]
          rfl
         refine one_ (i := 6) (N := some 18) zm7_9 rfl rfl (one_of HT_.out (by kernel_rfl)) (by decide) (fun K hK => ?_)
         refine goes_ Tryd.func78 (by kernel_rfl) rfl #[.int .i64 x1_1] (by rfl) rfl rfl zb2_9 ?_
         with_reducible refine (laws_markText.calls k1 x1_1 t272 _ A5.out).mono ?_
         rintro e w16 ⟨rfl, hb⟩
         refine ⟨_, rfl, ?_⟩
         have n0_ := Aside0.mk (below_step zb3_9 hb)
         clear HB
         have HB := n0_
         clear n0_
         (try clear hb)
         (try clear hb2)
         (try clear hk)
         (try clear hi)
         refine hK.out _ _ ⟨((HB.out.cell (World.block_lt_of_cell? w _ hw271_0)).trans hw271_0), ((HB.out.cell (World.block_lt_of_cell? w _ hw271_1)).trans hw271_1), ((HB.out.cell (World.block_lt_of_cell? w _ hw271_2)).trans hw271_2), ((HB.out.cell (World.block_lt_of_cell? w _ hw271_3)).trans hw271_3)⟩ (fun hHeld => ?_)
         clear hK K
         refine norm_ (a' := ?_) ?_ ?_
         rotate_left
         ·
          show Act.put _ (some 18) _ = _
          simp only [Act.put, List.setIfInBounds_toArray, List.set_cons_zero, List.set_cons_succ, i64_w, i32_w]
          rfl
         refine zp_9 7 (some 19) zm8_9 HT_ ?_
         refine done_ (done_of HT_.out (by kernel_rfl)) ?_
         have p273 : 0 ≤ (x5_1 : Int) := of_decide_eq_true zb1_9
         have q273 : x5_1 < (l0.length : Int) := of_decide_eq_true zb1_9
         obtain ⟨ad273, e273, hx273_0, hx273_1, hx273_2, hx273_3⟩ := at_T71 HR0.out x5_1 p273 q273
         obtain rfl : ad271 = ad273 := (by injection e273)
         replace hx273_0 := (HB.out.cell (World.block_lt_of_cell? w _ hx273_0)).trans hx273_0
         replace hx273_1 := (HB.out.cell (World.block_lt_of_cell? w _ hx273_1)).trans hx273_1
         replace hx273_2 := (HB.out.cell (World.block_lt_of_cell? w _ hx273_2)).trans hx273_2
         replace hx273_3 := (HB.out.cell (World.block_lt_of_cell? w _ hx273_3)).trans hx273_3
         replace p273 := eq_true p273
         replace q273 := eq_true q273
         have p274 : 0 ≤ (x5_1 : Int) := of_decide_eq_true zb1_9
         have q274 : x5_1 < (l0.length : Int) := of_decide_eq_true zb1_9
         obtain ⟨ad274, e274, hx274_0, hx274_1, hx274_2, hx274_3⟩ := at_T71 HR0.out x5_1 p274 q274
         obtain rfl : ad271 = ad274 := (by injection e274)
         replace hx274_0 := (HB.out.cell (World.block_lt_of_cell? w _ hx274_0)).trans hx274_0
         replace hx274_1 := (HB.out.cell (World.block_lt_of_cell? w _ hx274_1)).trans hx274_1
         replace hx274_2 := (HB.out.cell (World.block_lt_of_cell? w _ hx274_2)).trans hx274_2
         replace hx274_3 := (HB.out.cell (World.block_lt_of_cell? w _ hx274_3)).trans hx274_3
         replace p274 := eq_true p274
         replace q274 := eq_true q274
         try go_wp2
         have n0_ := Aside0.mk (below_drew1 HB.out)
         clear HB
         have HB := n0_
         clear n0_
         have p275 : 0 ≤ (x5_1 : Int) := of_decide_eq_true zb1_9
         have q275 : x5_1 < (l0.length : Int) := of_decide_eq_true zb1_9
         obtain ⟨ad275, e275, hx275_0, hx275_1, hx275_2, hx275_3⟩ := at_T71 HR0.out x5_1 p275 q275
         have hw275_3 := hx275_3
         have hw275_2 := hx275_2
         have hw275_1 := hx275_1
         have hw275_0 := hx275_0
         obtain rfl : ad271 = ad275 := (by injection e275)
         replace hx275_0 := (HB.out.cell (World.block_lt_of_cell? w _ hx275_0)).trans hx275_0
         replace hx275_1 := (HB.out.cell (World.block_lt_of_cell? w _ hx275_1)).trans hx275_1
         replace hx275_2 := (HB.out.cell (World.block_lt_of_cell? w _ hx275_2)).trans hx275_2
         replace hx275_3 := (HB.out.cell (World.block_lt_of_cell? w _ hx275_3)).trans hx275_3
         replace p275 := eq_true p275
         replace q275 := eq_true q275
         refine start_ (n := 8) (S := fun w' => w'.cell? (ad271.add ((x5_1).toNat * 4)) = some (.string ((rd_T71 l0 x5_1).f0)) ∧ w'.cell? ⟨(ad271.add ((x5_1).toNat * 4)).block, (ad271.add ((x5_1).toNat * 4)).off + 1, none⟩ = some (.int .i64 ((rd_T71 l0 x5_1).f1)) ∧ w'.cell? ⟨(ad271.add ((x5_1).toNat * 4)).block, (ad271.add ((x5_1).toNat * 4)).off + 2, none⟩ = some (.int .i64 ((rd_T71 l0 x5_1).f2)) ∧ w'.cell? ⟨(ad271.add ((x5_1).toNat * 4)).block, (ad271.add ((x5_1).toNat * 4)).off + 3, none⟩ = some (.string ((rd_T71 l0 x5_1).f3))) (ds := []) zm0_9 (by kernel_rfl) rfl rfl ⟨((HB.out.cell (World.block_lt_of_cell? w _ hw275_0)).trans hw275_0), ((HB.out.cell (World.block_lt_of_cell? w _ hw275_1)).trans hw275_1), ((HB.out.cell (World.block_lt_of_cell? w _ hw275_2)).trans hw275_2), ((HB.out.cell (World.block_lt_of_cell? w _ hw275_3)).trans hw275_3)⟩ (fun hHeld => ?_); refine with_tabW laws_heldPeerS.tab13 laws_heldPeerS.bits13 (fun HT_ HW_ => ?_)
         generalize w16.drew = w17 at HB hx275_0 hx275_1 hx275_2 hx275_3 hHeld ⊢
         refine zp_9 0 (some 40) zm1_9 HT_ ?_
         refine zp_9 1 (some 41) zm2_9 HT_ ?_
         refine zp_9 2 (some 42) zm3_9 HT_ ?_
         refine zp_9 3 (some 43) zm4_9 HT_ ?_
         refine zp_9 5 (some 45) zm5_9 HT_ ?_
         refine take_ (i := 4) (N := some 44) (v := ?_) (a' := ?_) zm6_9 rfl rfl (take_ofW HT_.out HW_.out (by kernel_rfl)) (fun _ _ _ h => h) (Or.inl ⟨by rfl, ?_⟩) hHeld ?_ ?_
         rotate_left
         ·
          rintro w' ⟨s0, s1, s2, s3⟩
          go_simp
          with_reducible rfl
         rotate_left
         ·
          simp only [Act.put, List.setIfInBounds_toArray, List.set_cons_zero, List.set_cons_succ, i64_w, i32_w]
          rfl
         refine one_ (i := 6) (N := some 46) zm7_9 rfl rfl (one_of HT_.out (by kernel_rfl)) (by decide) (fun K hK => ?_)
         refine goes_ Tryd.func78 (by kernel_rfl) rfl #[.int .i64 (wrap64 ((wrap64 ((wrap64 (x1_1 + 1)) + 1)) + 1))] (by rfl) rfl rfl zb2_9 ?_
         with_reducible refine (laws_markText.calls k1 (wrap64 ((wrap64 ((wrap64 (x1_1 + 1)) + 1)) + 1)) t276 _ A9.out).mono ?_
         rintro e w18 ⟨rfl, hb⟩
         refine ⟨_, rfl, ?_⟩
         have n0_ := Aside0.mk (below_step zb3_9 hb)
         clear HB
         have HB := n0_
         clear n0_
         (try clear hb)
         (try clear hb2)
         (try clear hk)
         (try clear hi)
         refine hK.out _ _ ⟨((HB.out.cell (World.block_lt_of_cell? w _ hw275_0)).trans hw275_0), ((HB.out.cell (World.block_lt_of_cell? w _ hw275_1)).trans hw275_1), ((HB.out.cell (World.block_lt_of_cell? w _ hw275_2)).trans hw275_2), ((HB.out.cell (World.block_lt_of_cell? w _ hw275_3)).trans hw275_3)⟩ (fun hHeld => ?_)
         clear hK K
         refine norm_ (a' := ?_) ?_ ?_
         rotate_left
         ·
          show Act.put _ (some 46) _ = _
          simp only [Act.put, List.setIfInBounds_toArray, List.set_cons_zero, List.set_cons_succ, i64_w, i32_w]
          rfl
         refine zp_9 7 (some 47) zm8_9 HT_ ?_
         refine done_ (done_of HT_.out (by kernel_rfl)) ?_
         try go_wp2
         go_ret
         exact ⟨by first | rfl | (simp [errW_none, errW_some] <;> rfl) | (simp [*, errW_none, errW_some] <;> rfl), by repeat (first | (with_reducible first | exact HB.out | apply below_alloc | apply pw_below_drewN | apply below_drew1) | exact HB.out)⟩
       ·
        rw [if_neg c8] at H
        have c8b0 : (((rd_T71 l0 x5_1).f2) == (wrap64 ((wrap64 (x1_1 + 1)) + 1))) = false := beq_eq_false_iff_ne.mpr c8
        have c8b1 : (((rd_T71 l0 x5_1).f2) != (wrap64 ((wrap64 (x1_1 + 1)) + 1))) = true := bne_iff_ne.mpr c8
        obtain rfl := Option.some.inj H
        try go_wp2
        have n0_ := Aside0.mk (below_drew1 HB.out)
        clear HB
        have HB := n0_
        clear n0_
        have p271 : 0 ≤ (x5_1 : Int) := of_decide_eq_true zb1_9
        have q271 : x5_1 < (l0.length : Int) := of_decide_eq_true zb1_9
        obtain ⟨ad271, e271, hx271_0, hx271_1, hx271_2, hx271_3⟩ := at_T71 HR0.out x5_1 p271 q271
        have hw271_3 := hx271_3
        have hw271_2 := hx271_2
        have hw271_1 := hx271_1
        have hw271_0 := hx271_0
        cases e271
        replace hx271_0 := (HB.out.cell (World.block_lt_of_cell? w _ hx271_0)).trans hx271_0
        replace hx271_1 := (HB.out.cell (World.block_lt_of_cell? w _ hx271_1)).trans hx271_1
        replace hx271_2 := (HB.out.cell (World.block_lt_of_cell? w _ hx271_2)).trans hx271_2
        replace hx271_3 := (HB.out.cell (World.block_lt_of_cell? w _ hx271_3)).trans hx271_3
        replace p271 := eq_true p271
        replace q271 := eq_true q271
        refine start_ (n := 8) (S := fun w' => w'.cell? (ad271.add ((x5_1).toNat * 4)) = some (.string ((rd_T71 l0 x5_1).f0)) ∧ w'.cell? ⟨(ad271.add ((x5_1).toNat * 4)).block, (ad271.add ((x5_1).toNat * 4)).off + 1, none⟩ = some (.int .i64 ((rd_T71 l0 x5_1).f1)) ∧ w'.cell? ⟨(ad271.add ((x5_1).toNat * 4)).block, (ad271.add ((x5_1).toNat * 4)).off + 2, none⟩ = some (.int .i64 ((rd_T71 l0 x5_1).f2)) ∧ w'.cell? ⟨(ad271.add ((x5_1).toNat * 4)).block, (ad271.add ((x5_1).toNat * 4)).off + 3, none⟩ = some (.string ((rd_T71 l0 x5_1).f3))) (ds := []) zm0_9 (by kernel_rfl) rfl rfl ⟨((HB.out.cell (World.block_lt_of_cell? w _ hw271_0)).trans hw271_0), ((HB.out.cell (World.block_lt_of_cell? w _ hw271_1)).trans hw271_1), ((HB.out.cell (World.block_lt_of_cell? w _ hw271_2)).trans hw271_2), ((HB.out.cell (World.block_lt_of_cell? w _ hw271_3)).trans hw271_3)⟩ (fun hHeld => ?_); refine with_tabW laws_heldPeerS.tab4 laws_heldPeerS.bits4 (fun HT_ HW_ => ?_)
        generalize wr.drew = w19 at HB hx271_0 hx271_1 hx271_2 hx271_3 hHeld ⊢
        refine zp_9 0 (some 12) zm1_9 HT_ ?_
        refine zp_9 1 (some 13) zm2_9 HT_ ?_
        refine zp_9 2 (some 14) zm3_9 HT_ ?_
        refine zp_9 3 (some 15) zm4_9 HT_ ?_
        refine zp_9 5 (some 17) zm5_9 HT_ ?_
        refine take_ (i := 4) (N := some 16) (v := ?_) (a' := ?_) zm6_9 rfl rfl (take_ofW HT_.out HW_.out (by kernel_rfl)) (fun _ _ _ h => h) (Or.inl ⟨by rfl, ?_⟩) hHeld ?_ ?_
        rotate_left
        ·
         rintro w' ⟨s0, s1, s2, s3⟩
         go_simp
         with_reducible rfl
        rotate_left
        ·
         simp only [Act.put, List.setIfInBounds_toArray, List.set_cons_zero, List.set_cons_succ, i64_w, i32_w]
         rfl
        refine one_ (i := 6) (N := some 18) zm7_9 rfl rfl (one_of HT_.out (by kernel_rfl)) (by decide) (fun K hK => ?_)
        refine goes_ Tryd.func78 (by kernel_rfl) rfl #[.int .i64 x1_1] (by rfl) rfl rfl zb2_9 ?_
        with_reducible refine (laws_markText.calls k1 x1_1 t272 _ A5.out).mono ?_
        rintro e w20 ⟨rfl, hb⟩
        refine ⟨_, rfl, ?_⟩
        have n0_ := Aside0.mk (below_step zb3_9 hb)
        clear HB
        have HB := n0_
        clear n0_
        (try clear hb)
        (try clear hb2)
        (try clear hk)
        (try clear hi)
        refine hK.out _ _ ⟨((HB.out.cell (World.block_lt_of_cell? w _ hw271_0)).trans hw271_0), ((HB.out.cell (World.block_lt_of_cell? w _ hw271_1)).trans hw271_1), ((HB.out.cell (World.block_lt_of_cell? w _ hw271_2)).trans hw271_2), ((HB.out.cell (World.block_lt_of_cell? w _ hw271_3)).trans hw271_3)⟩ (fun hHeld => ?_)
        clear hK K
        refine norm_ (a' := ?_) ?_ ?_
        rotate_left
        ·
         show Act.put _ (some 18) _ = _
         simp only [Act.put, List.setIfInBounds_toArray, List.set_cons_zero, List.set_cons_succ, i64_w, i32_w]
         rfl
        refine zp_9 7 (some 19) zm8_9 HT_ ?_
        refine done_ (done_of HT_.out (by kernel_rfl)) ?_
        have p273 : 0 ≤ (x5_1 : Int) := of_decide_eq_true zb1_9
        have q273 : x5_1 < (l0.length : Int) := of_decide_eq_true zb1_9
        obtain ⟨ad273, e273, hx273_0, hx273_1, hx273_2, hx273_3⟩ := at_T71 HR0.out x5_1 p273 q273
        obtain rfl : ad271 = ad273 := (by injection e273)
        replace hx273_0 := (HB.out.cell (World.block_lt_of_cell? w _ hx273_0)).trans hx273_0
        replace hx273_1 := (HB.out.cell (World.block_lt_of_cell? w _ hx273_1)).trans hx273_1
        replace hx273_2 := (HB.out.cell (World.block_lt_of_cell? w _ hx273_2)).trans hx273_2
        replace hx273_3 := (HB.out.cell (World.block_lt_of_cell? w _ hx273_3)).trans hx273_3
        replace p273 := eq_true p273
        replace q273 := eq_true q273
        have p274 : 0 ≤ (x5_1 : Int) := of_decide_eq_true zb1_9
        have q274 : x5_1 < (l0.length : Int) := of_decide_eq_true zb1_9
        obtain ⟨ad274, e274, hx274_0, hx274_1, hx274_2, hx274_3⟩ := at_T71 HR0.out x5_1 p274 q274
        obtain rfl : ad271 = ad274 := (by injection e274)
        replace hx274_0 := (HB.out.cell (World.block_lt_of_cell? w _ hx274_0)).trans hx274_0
        replace hx274_1 := (HB.out.cell (World.block_lt_of_cell? w _ hx274_1)).trans hx274_1
        replace hx274_2 := (HB.out.cell (World.block_lt_of_cell? w _ hx274_2)).trans hx274_2
        replace hx274_3 := (HB.out.cell (World.block_lt_of_cell? w _ hx274_3)).trans hx274_3
        replace p274 := eq_true p274
        replace q274 := eq_true q274
        try go_wp2
        go_ret
        exact ⟨by first | rfl | (simp [errW_none, errW_some] <;> rfl) | (simp [*, errW_none, errW_some] <;> rfl), by repeat (first | (with_reducible first | exact HB.out | apply below_alloc | apply pw_below_drewN | apply below_drew1) | exact HB.out)⟩
      ·
       rw [if_neg c7] at H
       have c7b0 : (((rd_T71 l0 x5_1).f1) == (wrap64 (x1_1 + 1))) = false := beq_eq_false_iff_ne.mpr c7
       have c7b1 : (((rd_T71 l0 x5_1).f1) != (wrap64 (x1_1 + 1))) = true := bne_iff_ne.mpr c7
       obtain rfl := Option.some.inj H
       try go_wp2
       have n0_ := Aside0.mk (below_drew1 HB.out)
       clear HB
       have HB := n0_
       clear n0_
       have p271 : 0 ≤ (x5_1 : Int) := of_decide_eq_true zb1_9
       have q271 : x5_1 < (l0.length : Int) := of_decide_eq_true zb1_9
       obtain ⟨ad271, e271, hx271_0, hx271_1, hx271_2, hx271_3⟩ := at_T71 HR0.out x5_1 p271 q271
       have hw271_3 := hx271_3
       have hw271_2 := hx271_2
       have hw271_1 := hx271_1
       have hw271_0 := hx271_0
       cases e271
       replace hx271_0 := (HB.out.cell (World.block_lt_of_cell? w _ hx271_0)).trans hx271_0
       replace hx271_1 := (HB.out.cell (World.block_lt_of_cell? w _ hx271_1)).trans hx271_1
       replace hx271_2 := (HB.out.cell (World.block_lt_of_cell? w _ hx271_2)).trans hx271_2
       replace hx271_3 := (HB.out.cell (World.block_lt_of_cell? w _ hx271_3)).trans hx271_3
       replace p271 := eq_true p271
       replace q271 := eq_true q271
       refine start_ (n := 8) (S := fun w' => w'.cell? (ad271.add ((x5_1).toNat * 4)) = some (.string ((rd_T71 l0 x5_1).f0)) ∧ w'.cell? ⟨(ad271.add ((x5_1).toNat * 4)).block, (ad271.add ((x5_1).toNat * 4)).off + 1, none⟩ = some (.int .i64 ((rd_T71 l0 x5_1).f1)) ∧ w'.cell? ⟨(ad271.add ((x5_1).toNat * 4)).block, (ad271.add ((x5_1).toNat * 4)).off + 2, none⟩ = some (.int .i64 ((rd_T71 l0 x5_1).f2)) ∧ w'.cell? ⟨(ad271.add ((x5_1).toNat * 4)).block, (ad271.add ((x5_1).toNat * 4)).off + 3, none⟩ = some (.string ((rd_T71 l0 x5_1).f3))) (ds := []) zm0_9 (by kernel_rfl) rfl rfl ⟨((HB.out.cell (World.block_lt_of_cell? w _ hw271_0)).trans hw271_0), ((HB.out.cell (World.block_lt_of_cell? w _ hw271_1)).trans hw271_1), ((HB.out.cell (World.block_lt_of_cell? w _ hw271_2)).trans hw271_2), ((HB.out.cell (World.block_lt_of_cell? w _ hw271_3)).trans hw271_3)⟩ (fun hHeld => ?_); refine with_tabW laws_heldPeerS.tab4 laws_heldPeerS.bits4 (fun HT_ HW_ => ?_)
       generalize wr.drew = w21 at HB hx271_0 hx271_1 hx271_2 hx271_3 hHeld ⊢
       refine zp_9 0 (some 12) zm1_9 HT_ ?_
       refine zp_9 1 (some 13) zm2_9 HT_ ?_
       refine zp_9 2 (some 14) zm3_9 HT_ ?_
       refine zp_9 3 (some 15) zm4_9 HT_ ?_
       refine zp_9 5 (some 17) zm5_9 HT_ ?_
       refine take_ (i := 4) (N := some 16) (v := ?_) (a' := ?_) zm6_9 rfl rfl (take_ofW HT_.out HW_.out (by kernel_rfl)) (fun _ _ _ h => h) (Or.inl ⟨by rfl, ?_⟩) hHeld ?_ ?_
       rotate_left
       ·
        rintro w' ⟨s0, s1, s2, s3⟩
        go_simp
        with_reducible rfl
       rotate_left
       ·
        simp only [Act.put, List.setIfInBounds_toArray, List.set_cons_zero, List.set_cons_succ, i64_w, i32_w]
        rfl
       refine one_ (i := 6) (N := some 18) zm7_9 rfl rfl (one_of HT_.out (by kernel_rfl)) (by decide) (fun K hK => ?_)
       refine goes_ Tryd.func78 (by kernel_rfl) rfl #[.int .i64 x1_1] (by rfl) rfl rfl zb2_9 ?_
       with_reducible refine (laws_markText.calls k1 x1_1 t272 _ A5.out).mono ?_
       rintro e w22 ⟨rfl, hb⟩
       refine ⟨_, rfl, ?_⟩
       have n0_ := Aside0.mk (below_step zb3_9 hb)
       clear HB
       have HB := n0_
       clear n0_
       (try clear hb)
       (try clear hb2)
       (try clear hk)
       (try clear hi)
       refine hK.out _ _ ⟨((HB.out.cell (World.block_lt_of_cell? w _ hw271_0)).trans hw271_0), ((HB.out.cell (World.block_lt_of_cell? w _ hw271_1)).trans hw271_1), ((HB.out.cell (World.block_lt_of_cell? w _ hw271_2)).trans hw271_2), ((HB.out.cell (World.block_lt_of_cell? w _ hw271_3)).trans hw271_3)⟩ (fun hHeld => ?_)
       clear hK K
       refine norm_ (a' := ?_) ?_ ?_
       rotate_left
       ·
        show Act.put _ (some 18) _ = _
        simp only [Act.put, List.setIfInBounds_toArray, List.set_cons_zero, List.set_cons_succ, i64_w, i32_w]
        rfl
       refine zp_9 7 (some 19) zm8_9 HT_ ?_
       refine done_ (done_of HT_.out (by kernel_rfl)) ?_
       have p273 : 0 ≤ (x5_1 : Int) := of_decide_eq_true zb1_9
       have q273 : x5_1 < (l0.length : Int) := of_decide_eq_true zb1_9
       obtain ⟨ad273, e273, hx273_0, hx273_1, hx273_2, hx273_3⟩ := at_T71 HR0.out x5_1 p273 q273
       obtain rfl : ad271 = ad273 := (by injection e273)
       replace hx273_0 := (HB.out.cell (World.block_lt_of_cell? w _ hx273_0)).trans hx273_0
       replace hx273_1 := (HB.out.cell (World.block_lt_of_cell? w _ hx273_1)).trans hx273_1
       replace hx273_2 := (HB.out.cell (World.block_lt_of_cell? w _ hx273_2)).trans hx273_2
       replace hx273_3 := (HB.out.cell (World.block_lt_of_cell? w _ hx273_3)).trans hx273_3
       replace p273 := eq_true p273
       replace q273 := eq_true q273
       try go_wp2
       go_ret
       exact ⟨by first | rfl | (simp [errW_none, errW_some] <;> rfl) | (simp [*, errW_none, errW_some] <;> rfl), by repeat (first | (with_reducible first | exact HB.out | apply below_alloc | apply pw_below_drewN | apply below_drew1) | exact HB.out)⟩
     ·
      rw [if_neg c6] at H
      have c6b0 : (((rd_T71 l0 x5_1).f0).toList == t272.toList) = false := beq_eq_false_iff_ne.mpr c6
      have c6b1 : (((rd_T71 l0 x5_1).f0).toList != t272.toList) = true := bne_iff_ne.mpr c6
      obtain rfl := Option.some.inj H
      try go_wp2
      have n0_ := Aside0.mk (below_drew1 HB.out)
      clear HB
      have HB := n0_
      clear n0_
      have p271 : 0 ≤ (x5_1 : Int) := of_decide_eq_true zb1_9
      have q271 : x5_1 < (l0.length : Int) := of_decide_eq_true zb1_9
      obtain ⟨ad271, e271, hx271_0, hx271_1, hx271_2, hx271_3⟩ := at_T71 HR0.out x5_1 p271 q271
      have hw271_3 := hx271_3
      have hw271_2 := hx271_2
      have hw271_1 := hx271_1
      have hw271_0 := hx271_0
      cases e271
      replace hx271_0 := (HB.out.cell (World.block_lt_of_cell? w _ hx271_0)).trans hx271_0
      replace hx271_1 := (HB.out.cell (World.block_lt_of_cell? w _ hx271_1)).trans hx271_1
      replace hx271_2 := (HB.out.cell (World.block_lt_of_cell? w _ hx271_2)).trans hx271_2
      replace hx271_3 := (HB.out.cell (World.block_lt_of_cell? w _ hx271_3)).trans hx271_3
      replace p271 := eq_true p271
      replace q271 := eq_true q271
      refine start_ (n := 8) (S := fun w' => w'.cell? (ad271.add ((x5_1).toNat * 4)) = some (.string ((rd_T71 l0 x5_1).f0)) ∧ w'.cell? ⟨(ad271.add ((x5_1).toNat * 4)).block, (ad271.add ((x5_1).toNat * 4)).off + 1, none⟩ = some (.int .i64 ((rd_T71 l0 x5_1).f1)) ∧ w'.cell? ⟨(ad271.add ((x5_1).toNat * 4)).block, (ad271.add ((x5_1).toNat * 4)).off + 2, none⟩ = some (.int .i64 ((rd_T71 l0 x5_1).f2)) ∧ w'.cell? ⟨(ad271.add ((x5_1).toNat * 4)).block, (ad271.add ((x5_1).toNat * 4)).off + 3, none⟩ = some (.string ((rd_T71 l0 x5_1).f3))) (ds := []) zm0_9 (by kernel_rfl) rfl rfl ⟨((HB.out.cell (World.block_lt_of_cell? w _ hw271_0)).trans hw271_0), ((HB.out.cell (World.block_lt_of_cell? w _ hw271_1)).trans hw271_1), ((HB.out.cell (World.block_lt_of_cell? w _ hw271_2)).trans hw271_2), ((HB.out.cell (World.block_lt_of_cell? w _ hw271_3)).trans hw271_3)⟩ (fun hHeld => ?_); refine with_tabW laws_heldPeerS.tab4 laws_heldPeerS.bits4 (fun HT_ HW_ => ?_)
      generalize wr.drew = w23 at HB hx271_0 hx271_1 hx271_2 hx271_3 hHeld ⊢
      refine zp_9 0 (some 12) zm1_9 HT_ ?_
      refine zp_9 1 (some 13) zm2_9 HT_ ?_
      refine zp_9 2 (some 14) zm3_9 HT_ ?_
      refine zp_9 3 (some 15) zm4_9 HT_ ?_
      refine zp_9 5 (some 17) zm5_9 HT_ ?_
      refine take_ (i := 4) (N := some 16) (v := ?_) (a' := ?_) zm6_9 rfl rfl (take_ofW HT_.out HW_.out (by kernel_rfl)) (fun _ _ _ h => h) (Or.inl ⟨by rfl, ?_⟩) hHeld ?_ ?_
      rotate_left
      ·
       rintro w' ⟨s0, s1, s2, s3⟩
       go_simp
       with_reducible rfl
      rotate_left
      ·
       simp only [Act.put, List.setIfInBounds_toArray, List.set_cons_zero, List.set_cons_succ, i64_w, i32_w]
       rfl
      refine one_ (i := 6) (N := some 18) zm7_9 rfl rfl (one_of HT_.out (by kernel_rfl)) (by decide) (fun K hK => ?_)
      refine goes_ Tryd.func78 (by kernel_rfl) rfl #[.int .i64 x1_1] (by rfl) rfl rfl zb2_9 ?_
      with_reducible refine (laws_markText.calls k1 x1_1 t272 _ A5.out).mono ?_
      rintro e w24 ⟨rfl, hb⟩
      refine ⟨_, rfl, ?_⟩
      have n0_ := Aside0.mk (below_step zb3_9 hb)
      clear HB
      have HB := n0_
      clear n0_
      (try clear hb)
      (try clear hb2)
      (try clear hk)
      (try clear hi)
      refine hK.out _ _ ⟨((HB.out.cell (World.block_lt_of_cell? w _ hw271_0)).trans hw271_0), ((HB.out.cell (World.block_lt_of_cell? w _ hw271_1)).trans hw271_1), ((HB.out.cell (World.block_lt_of_cell? w _ hw271_2)).trans hw271_2), ((HB.out.cell (World.block_lt_of_cell? w _ hw271_3)).trans hw271_3)⟩ (fun hHeld => ?_)
      clear hK K
      refine norm_ (a' := ?_) ?_ ?_
      rotate_left
      ·
       show Act.put _ (some 18) _ = _
       simp only [Act.put, List.setIfInBounds_toArray, List.set_cons_zero, List.set_cons_succ, i64_w, i32_w]
       rfl
      refine zp_9 7 (some 19) zm8_9 HT_ ?_
      refine done_ (done_of HT_.out (by kernel_rfl)) ?_
      try go_wp2
      go_ret
      exact ⟨by first | rfl | (simp [errW_none, errW_some] <;> rfl) | (simp [*, errW_none, errW_some] <;> rfl), by repeat (first | (with_reducible first | exact HB.out | apply below_alloc | apply pw_below_drewN | apply below_drew1) | exact HB.out)⟩
    ·
     rw [if_neg c4] at H
     exact absurd H (by simp)
   ·
    rw [if_neg c3] at H
    have c3b0 : decide (x5_1 < (l0.length : Int)) = false := decide_eq_false c3
    clear c3
    obtain rfl := Option.some.inj H
    go_wp2
    go_ret
    exact ⟨by first | rfl | (simp [errW_none, errW_some] <;> rfl) | (simp [*, errW_none, errW_some] <;> rfl), by repeat (first | (with_reducible first | exact HB.out | apply below_alloc | apply pw_below_drewN | apply below_drew1) | exact HB.out)⟩

end Go.Proofs.YtjchggdekbnmnaaDoor.QFnExactDbOpen
