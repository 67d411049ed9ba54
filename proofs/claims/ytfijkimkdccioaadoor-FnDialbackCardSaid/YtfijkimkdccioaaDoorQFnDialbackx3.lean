-- laid by this session's own runner (wip/print2.py): not a printed file
import Derived.Test.YtfijkimkdccioaaDoorQFnDialbackx0
import Derived.Test.YtfijkimkdccioaaDoorQFnDialbackx2
namespace Go.Proofs.YtfijkimkdccioaaDoor.QFnDialback
open Go.RowKit Go.Proofs.YtfijkimkdccioaaDoorW.PrintWords Go.Proofs.YtfijkimkdccioaaDoorW.PrintLast Go.Proofs.YtfijkimkdccioaaDoorW.PrintMore
attribute [local go_sem] max2_int min2_int max_two min_two max_three min_three max_four min_four   -- for this text's walks alone
set_option linter.unusedVariables false
set_option linter.unusedSimpArgs false

theorem zb0_3 {P : Prop} (h : P := by rfl) : P := h
theorem zb1_3 {P : Prop} (h : P := by (with_reducible assumption)) : P := h
theorem zb2_3 {P : Prop} (h : P := by (try simp only [List.map_toArray, List.map_cons, List.map_nil]); rfl) : P := h
/-! ### spec_l03Domain: function 39 -/
mutual
def spec_l03Domain.j0 : Nat → ByteArray → Int → Bool → Option (Bool)
  | 0, _, _, _ => none
  | k + 1, x0, x3, x36 => if x36 = true then (some false) else (spec_l03Domain.l0 k x0 x3 0)
def spec_l03Domain.l0 : Nat → ByteArray → Int → Int → Option (Bool)
  | 0, _, _, _ => none
  | k + 1, x0, x3, x4 => if x4 < x3 then (if 0 ≤ x4 then (if x4 < (x0.size : Int) then ((spec_l03Plain.f k (bt x0 x4) (⟨#[46, 45]⟩ : ByteArray)).bind fun t103 => (if t103 = true then (if x4 > 0 then (if (bt x0 x4) = 46 then (if 0 ≤ (wrap64 (x4 - 1)) then (if (wrap64 (x4 - 1)) < (x0.size : Int) then (if (bt x0 (wrap64 (x4 - 1))) = 46 then (some false) else (spec_l03Domain.l0 k x0 x3 (wrap64 (x4 + 1)))) else (none)) else (none)) else (spec_l03Domain.l0 k x0 x3 (wrap64 (x4 + 1)))) else (spec_l03Domain.l0 k x0 x3 (wrap64 (x4 + 1)))) else (some false))) else (none)) else (none)) else (some true)
end
def spec_l03Domain.f (k : Nat) (a0 : ByteArray) : Option (Bool) := if (a0.size : Int) < 1 then (spec_l03Domain.j0 k a0 (a0.size : Int) true) else (if (a0.size : Int) > 30 then (spec_l03Domain.j0 k a0 (a0.size : Int) true) else (if 0 < (a0.size : Int) then (if (bt a0 0) = 46 then (spec_l03Domain.j0 k a0 (a0.size : Int) true) else (if (bt a0 0) = 45 then (spec_l03Domain.j0 k a0 (a0.size : Int) true) else (if 0 ≤ (wrap64 ((a0.size : Int) - 1)) then (if (wrap64 ((a0.size : Int) - 1)) < (a0.size : Int) then (if (bt a0 (wrap64 ((a0.size : Int) - 1))) = 46 then (spec_l03Domain.j0 k a0 (a0.size : Int) true) else (spec_l03Domain.j0 k a0 (a0.size : Int) ((bt a0 (wrap64 ((a0.size : Int) - 1))) == 45))) else (none)) else (none)))) else (none)))
theorem spec_l03Domain.mono_l : ∀ k, (∀ y0 y1 y2, LeO (spec_l03Domain.j0 k y0 y1 y2) (spec_l03Domain.j0 (k + 1) y0 y1 y2)) ∧ (∀ y0 y1 y2, LeO (spec_l03Domain.l0 k y0 y1 y2) (spec_l03Domain.l0 (k + 1) y0 y1 y2))
  | 0 => ⟨fun _ _ _ r h => by simp [spec_l03Domain.j0] at h, fun _ _ _ r h => by simp [spec_l03Domain.l0] at h⟩
  | k + 1 => by
    obtain ⟨ih0, ih1⟩ := spec_l03Domain.mono_l k
    refine ⟨?_, ?_⟩
    · intro y0 y1 y2
      unfold spec_l03Domain.j0
      repeat' first
      | (with_reducible exact ih0 _ _ _)
      | (with_reducible exact ih1 _ _ _)
      | (with_reducible exact spec_l03Plain.mono _ _ _)
      | (with_reducible exact LeO.refl _)
      | (with_reducible exact LeO.none _)
      | (with_reducible refine LeO.ite ?_ ?_)
      | (with_reducible refine LeO.bind ?_ (fun _ => ?_))
      | exact ih0 _ _ _
      | exact ih1 _ _ _
      | exact spec_l03Plain.mono _ _ _
      | exact LeO.none _
      | refine LeO.ite ?_ ?_
      | refine LeO.bind ?_ (fun _ => ?_)
    · intro y0 y1 y2
      unfold spec_l03Domain.l0
      repeat' first
      | (with_reducible exact ih0 _ _ _)
      | (with_reducible exact ih1 _ _ _)
      | (with_reducible exact spec_l03Plain.mono _ _ _)
      | (with_reducible exact LeO.refl _)
      | (with_reducible exact LeO.none _)
      | (with_reducible refine LeO.ite ?_ ?_)
      | (with_reducible refine LeO.bind ?_ (fun _ => ?_))
      | exact ih0 _ _ _
      | exact ih1 _ _ _
      | exact spec_l03Plain.mono _ _ _
      | exact LeO.none _
      | refine LeO.ite ?_ ?_
      | refine LeO.bind ?_ (fun _ => ?_)
theorem spec_l03Domain.mono : ∀ a0 k, LeO (spec_l03Domain.f k a0) (spec_l03Domain.f (k + 1) a0) := by
  intro a0 k
  obtain ⟨ih0, ih1⟩ := spec_l03Domain.mono_l k
  unfold spec_l03Domain.f
  repeat' first
      | (with_reducible exact ih0 _ _ _)
      | (with_reducible exact ih1 _ _ _)
      | (with_reducible exact spec_l03Plain.mono _ _ _)
      | (with_reducible exact LeO.refl _)
      | (with_reducible exact LeO.none _)
      | (with_reducible refine LeO.ite ?_ ?_)
      | (with_reducible refine LeO.bind ?_ (fun _ => ?_))
      | exact ih0 _ _ _
      | exact ih1 _ _ _
      | exact spec_l03Plain.mono _ _ _
      | exact LeO.none _
      | refine LeO.ite ?_ ?_
      | refine LeO.bind ?_ (fun _ => ?_)
set_option maxHeartbeats 8000000 in
set_option maxRecDepth 100000 in
theorem spec_l03Domain.calls (k : Nat) (a0 : ByteArray) (r : Bool) (w : World) (h : spec_l03Domain.f k a0 = some r) :
    Calls Tryd.prog 39 #[.string a0] w fun e w' => e = .returned (.bool r) ∧ Drawn0 w w' := by
 have H : (if (a0.size : Int) < 1 then (spec_l03Domain.j0 k a0 (a0.size : Int) true) else (if (a0.size : Int) > 30 then (spec_l03Domain.j0 k a0 (a0.size : Int) true) else (if 0 < (a0.size : Int) then (if (bt a0 0) = 46 then (spec_l03Domain.j0 k a0 (a0.size : Int) true) else (if (bt a0 0) = 45 then (spec_l03Domain.j0 k a0 (a0.size : Int) true) else (if 0 ≤ (wrap64 ((a0.size : Int) - 1)) then (if (wrap64 ((a0.size : Int) - 1)) < (a0.size : Int) then (if (bt a0 (wrap64 ((a0.size : Int) - 1))) = 46 then (spec_l03Domain.j0 k a0 (a0.size : Int) true) else (spec_l03Domain.j0 k a0 (a0.size : Int) ((bt a0 (wrap64 ((a0.size : Int) - 1))) == 45))) else (none)) else (none)))) else (none)))) = some r := h
 clear h
 have HC2 := Aside0.mk H
 clear H
 go_enter Tryd.func39, Tryd.ntmps39
 go_upto_region 2 with (fail)
 go_cut [36] (fun v36 wc => ∃ (kq : Nat) (x36_1 : Bool), v36 = .bool x36_1 ∧ Aside0 (spec_l03Domain.j0 kq a0 (a0.size : Int) x36_1 = some r) ∧ Aside0 (kq ≤ k) ∧ Drawn0 w wc)
 case first =>
  have H := HC2.out
  clear HC2
  by_cases c3 : (a0.size : Int) < 1
  ·
   rw [if_pos c3] at H
   have c3b0 := decide_eq_true c3
   have c3b1 : decide (a0.size < 1) = true := decide_eq_true (by omega)
   clear c3
   have H' := Aside0.mk H
   clear H
   go_wp2
   go_meet
   case rel => exact ⟨_, (true), zb0_3, H', ⟨by omega⟩, by repeat ((exact Drawn0.refl _))⟩
  rw [if_neg c3] at H
  have c3b0 := decide_eq_false c3
  have c3b1 : decide (a0.size < 1) = false := decide_eq_false (by omega)
  clear c3
  by_cases c4 : (a0.size : Int) > 30
  ·
   rw [if_pos c4] at H
   have c4b0 : decide (30 < (a0.size : Int)) = true := decide_eq_true c4
   have c4b1 : decide (30 < a0.size) = true := decide_eq_true (by omega)
   clear c4
   have H' := Aside0.mk H
   clear H
   go_wp2
   go_meet
   case rel => exact ⟨_, (true), zb0_3, H', ⟨by omega⟩, by repeat ((exact Drawn0.refl _))⟩
  rw [if_neg c4] at H
  have c4b0 : decide (30 < (a0.size : Int)) = false := decide_eq_false c4
  have c4b1 : decide (30 < a0.size) = false := decide_eq_false (by omega)
  clear c4
  by_cases c5 : 0 < (a0.size : Int)
  rotate_left
  · rw [if_neg c5] at H; exact absurd H (by simp)
  rw [if_pos c5] at H
  have c5b0 := decide_eq_true c5
  have c5b1 : decide (0 < a0.size) = true := decide_eq_true (by omega)
  clear c5
  have p6 : 0 ≤ (0 : Int) := (by omega)
  have q6 : 0 < a0.size := (by have : (0 : Int) < (a0.size : Int) := of_decide_eq_true zb1_3; omega)
  have hx6 : ∀ h : 0 < a0.size, ((a0[0]'h).toNat : Int) = bt a0 0 := bt_at a0 0
  clear p6
  have qi6 : (0 < (a0.size : Int)) = True := eq_true (of_decide_eq_true zb1_3)
  replace q6 := eq_true q6
  by_cases c7 : (bt a0 0) = 46
  ·
   rw [if_pos c7] at H
   have c7b0 : ((bt a0 0) == 46) = true := beq_iff_eq.mpr c7
   have c7b1 : ((bt a0 0) != 46) = false := bne_eq_false_iff_eq.mpr c7
   clear c7
   have H' := Aside0.mk H
   clear H
   (try rw [c7b0])
   (try rw [c7b1])
   go_wp2
   go_meet
   case rel => exact ⟨_, (true), zb0_3, H', ⟨by omega⟩, by repeat ((exact Drawn0.refl _))⟩
  rw [if_neg c7] at H
  have c7b0 : ((bt a0 0) == 46) = false := beq_eq_false_iff_ne.mpr c7
  have c7b1 : ((bt a0 0) != 46) = true := bne_iff_ne.mpr c7
  (try rw [c7b0])
  (try rw [c7b1])
  have p8 : 0 ≤ (0 : Int) := (by omega)
  have q8 : 0 < a0.size := (by have : (0 : Int) < (a0.size : Int) := of_decide_eq_true zb1_3; omega)
  have hx8 : ∀ h : 0 < a0.size, ((a0[0]'h).toNat : Int) = bt a0 0 := bt_at a0 0
  clear p8
  have qi8 : (0 < (a0.size : Int)) = True := eq_true (of_decide_eq_true zb1_3)
  replace q8 := eq_true q8
  by_cases c9 : (bt a0 0) = 45
  ·
   rw [if_pos c9] at H
   have c9b0 : ((bt a0 0) == 45) = true := beq_iff_eq.mpr c9
   have c9b1 : ((bt a0 0) != 45) = false := bne_eq_false_iff_eq.mpr c9
   clear c9
   have H' := Aside0.mk H
   clear H
   (try rw [c9b0])
   (try rw [c9b1])
   go_wp2
   go_meet
   case rel => exact ⟨_, (true), zb0_3, H', ⟨by omega⟩, by repeat ((exact Drawn0.refl _))⟩
  rw [if_neg c9] at H
  have c9b0 : ((bt a0 0) == 45) = false := beq_eq_false_iff_ne.mpr c9
  have c9b1 : ((bt a0 0) != 45) = true := bne_iff_ne.mpr c9
  obtain ⟨ji10, hji10⟩ : ∃ j_ : Int, (wrap64 ((a0.size : Int) - 1)) = j_ := ⟨_, rfl⟩
  replace H : (if 0 ≤ (ji10) then (if (ji10) < (a0.size : Int) then (if (bt a0 (ji10)) = 46 then (spec_l03Domain.j0 k a0 (a0.size : Int) true) else (spec_l03Domain.j0 k a0 (a0.size : Int) ((bt a0 (ji10)) == 45))) else (none)) else (none)) = some r := by (rw [hji10] at H; exact H)
  have hji10w : (IntKind.i64.wrap ((a0.size : Int) - 1)) = ji10 := (i64_w _).trans hji10
  (try rw [c9b0])
  (try rw [c9b1])
  by_cases c11 : 0 ≤ (ji10)
  rotate_left
  · rw [if_neg c11] at H; exact absurd H (by simp)
  rw [if_pos c11] at H
  have c11b0 := decide_eq_true c11
  clear c11
  by_cases c12 : (ji10) < (a0.size : Int)
  rotate_left
  · rw [if_neg c12] at H; exact absurd H (by simp)
  rw [if_pos c12] at H
  have c12b0 := decide_eq_true c12
  clear c12
  have p13 : 0 ≤ ((ji10) : Int) := of_decide_eq_true zb1_3
  have q13 : (ji10) < (a0.size : Int) := of_decide_eq_true zb1_3
  have hx13 := bt_at a0 (ji10)
  replace p13 := eq_true p13
  replace q13 := eq_true q13
  by_cases c14 : (bt a0 (ji10)) = 46
  ·
   rw [if_pos c14] at H
   have c14b0 : ((bt a0 (ji10)) == 46) = true := beq_iff_eq.mpr c14
   have c14b1 : ((bt a0 (ji10)) != 46) = false := bne_eq_false_iff_eq.mpr c14
   clear c14
   have H' := Aside0.mk H
   clear H
   (try rw [c14b0])
   (try rw [c14b1])
   go_wp2
   go_meet
   case rel => exact ⟨_, (true), zb0_3, H', ⟨by omega⟩, by repeat ((exact Drawn0.refl _))⟩
  rw [if_neg c14] at H
  have c14b0 : ((bt a0 (ji10)) == 46) = false := beq_eq_false_iff_ne.mpr c14
  have c14b1 : ((bt a0 (ji10)) != 46) = true := bne_iff_ne.mpr c14
  have H' := Aside0.mk H
  clear H
  (try rw [c14b0])
  (try rw [c14b1])
  have p15 : 0 ≤ ((ji10) : Int) := of_decide_eq_true zb1_3
  have q15 : (ji10) < (a0.size : Int) := of_decide_eq_true zb1_3
  have hx15 := bt_at a0 (ji10)
  replace p15 := eq_true p15
  replace q15 := eq_true q15
  go_wp2
  go_meet
  case rel => exact ⟨_, (((bt a0 (ji10)) == 45)), (by rfl), H', ⟨by omega⟩, by repeat ((exact Drawn0.refl _))⟩
 case rest =>
  clear HC2
  obtain ⟨kq, x36_1, rfl, HA, HJ1, ⟨mc1, rfl⟩⟩ := hcut
  cases kq with
  | zero => exact absurd HA.out (by simp [spec_l03Domain.j0])
  | succ kj1 =>
   have H := HA.out
   clear HA
   simp only [spec_l03Domain.j0] at H
   by_cases c16 : x36_1 = true
   · subst c16; rw [if_pos rfl] at H; obtain rfl := Option.some.inj H; go_wp2; go_ret; exact ⟨by rfl, by repeat (first | exact Drawn0.refl _ | apply Drawn0.step)⟩
   replace c16 := Bool.eq_false_iff.mpr c16
   subst c16
   rw [if_neg (show ¬ (false = true) by decide)] at H
   have H' := Aside0.mk H
   clear H
   go_wp2
   go_loopg [4] kj1 (fun kq v4 w' => ∃ (x4_2 : Int), v4 = .int .i64 x4_2 ∧ Aside0 (spec_l03Domain.l0 kq a0 (a0.size : Int) x4_2 = some r) ∧ Aside0 (kq ≤ kj1) ∧ Drawn0 w w')
   case atStart => exact ⟨(0), zb0_3, H', ⟨Nat.le_refl _⟩, by repeat (first | exact Drawn0.refl _ | apply Drawn0.step)⟩
   case round =>
    clear H'
    obtain ⟨x4_2, rfl, HA, HK2, ⟨m2, rfl⟩⟩ := hrel
    cases gk with
    | zero => exact absurd HA.out (by simp [spec_l03Domain.l0])
    | succ k2 =>
     have H := HA.out
     clear HA
     simp only [spec_l03Domain.l0] at H
     by_cases c17 : x4_2 < (a0.size : Int)
     rotate_left
     · rw [if_neg c17] at H; have c17b0 := decide_eq_false c17; clear c17; obtain rfl := Option.some.inj H; go_wp2; go_ret; exact ⟨by rfl, by repeat (first | exact Drawn0.refl _ | apply Drawn0.step)⟩
     rw [if_pos c17] at H
     have c17b0 := decide_eq_true c17
     clear c17
     by_cases c18 : 0 ≤ x4_2
     rotate_left
     · rw [if_neg c18] at H; exact absurd H (by simp)
     rw [if_pos c18] at H
     have c18b0 := decide_eq_true c18
     clear c18
     by_cases c19 : x4_2 < (a0.size : Int)
     rotate_left
     · rw [if_neg c19] at H; exact absurd H (by simp)
     rw [if_pos c19] at H
     have c19b0 := decide_eq_true c19
     clear c19
     replace H := Option.bind_eq_some_iff.mp H
     obtain ⟨t103, A210, H⟩ := H
     (try dsimp -simprocs only at H)
     have A21 := Aside0.mk A210
     clear A210
     have p20 : 0 ≤ (x4_2 : Int) := of_decide_eq_true zb1_3
     have q20 : x4_2 < (a0.size : Int) := of_decide_eq_true zb1_3
     have hx20 := bt_at a0 x4_2
     replace p20 := eq_true p20
     replace q20 := eq_true q20
     by_cases c22 : t103 = true
     rotate_left
     ·
      replace c22 := Bool.eq_false_iff.mpr c22
      subst c22
      rw [if_neg (show ¬ (false = true) by decide)] at H
      obtain rfl := Option.some.inj H
      go_wp2_with (((with_reducible refine gate_callee (f := 43) rfl ?_); refine goesL_ (some 45) rfl rfl Tryd.func43 (by kernel_rfl) rfl #[.int .u8 (bt a0 x4_2), .string (⟨#[46, 45]⟩ : ByteArray)] rfl zb2_3 ?_; (with_reducible refine (spec_l03Plain.calls k2 (bt a0 x4_2) (⟨#[46, 45]⟩ : ByteArray) false _ A21.out).mono ?_); rintro e w' ⟨rfl, ⟨nd, rfl⟩⟩; refine ⟨_, rfl, ?_⟩))
      go_ret
      exact ⟨by rfl, by repeat (first | exact Drawn0.refl _ | apply Drawn0.step)⟩
     subst c22
     rw [if_pos rfl] at H
     by_cases c23 : x4_2 > 0
     rotate_left
     ·
      rw [if_neg c23] at H
      have c23b0 : decide (0 < x4_2) = false := decide_eq_false c23
      clear c23
      have H' := Aside0.mk H
      clear H
      (try rw [c23b0])
      go_wp2_with (((with_reducible refine gate_callee (f := 43) rfl ?_); refine goesL_ (some 45) rfl rfl Tryd.func43 (by kernel_rfl) rfl #[.int .u8 (bt a0 x4_2), .string (⟨#[46, 45]⟩ : ByteArray)] rfl zb2_3 ?_; (with_reducible refine (spec_l03Plain.calls k2 (bt a0 x4_2) (⟨#[46, 45]⟩ : ByteArray) true _ A21.out).mono ?_); rintro e w' ⟨rfl, ⟨nd, rfl⟩⟩; refine ⟨_, rfl, ?_⟩))
      go_roundg k2
      case measure => have := HJ1.out; have := HK2.out; omega
      case rel => exact ⟨(wrap64 (x4_2 + 1)), zb0_3, H', ⟨by have := HJ1.out; have := HK2.out; omega⟩, by repeat (first | exact Drawn0.refl _ | apply Drawn0.step)⟩
     rw [if_pos c23] at H
     have c23b0 : decide (0 < x4_2) = true := decide_eq_true c23
     clear c23
     (try rw [c23b0])
     by_cases c25 : (bt a0 x4_2) = 46
     rotate_left
     ·
      rw [if_neg c25] at H
      have c25b0 : ((bt a0 x4_2) == 46) = false := beq_eq_false_iff_ne.mpr c25
      have c25b1 : ((bt a0 x4_2) != 46) = true := bne_iff_ne.mpr c25
      have H' := Aside0.mk H
      clear H
      (try rw [c25b0])
      (try rw [c25b1])
      go_wp2_with (((with_reducible refine gate_callee (f := 43) rfl ?_); refine goesL_ (some 45) rfl rfl Tryd.func43 (by kernel_rfl) rfl #[.int .u8 (bt a0 x4_2), .string (⟨#[46, 45]⟩ : ByteArray)] rfl zb2_3 ?_; (with_reducible refine (spec_l03Plain.calls k2 (bt a0 x4_2) (⟨#[46, 45]⟩ : ByteArray) true _ A21.out).mono ?_); rintro e w' ⟨rfl, ⟨nd, rfl⟩⟩; refine ⟨_, rfl, ?_⟩; have p24 : 0 ≤ (x4_2 : Int) := of_decide_eq_true zb1_3; have q24 : x4_2 < (a0.size : Int) := of_decide_eq_true zb1_3; have hx24 := bt_at a0 x4_2; replace p24 := eq_true p24; replace q24 := eq_true q24))
      go_roundg k2
      case measure => have := HJ1.out; have := HK2.out; omega
      case rel => exact ⟨(wrap64 (x4_2 + 1)), zb0_3, H', ⟨by have := HJ1.out; have := HK2.out; omega⟩, by repeat (first | exact Drawn0.refl _ | apply Drawn0.step)⟩
     rw [if_pos c25] at H
     have c25b0 : ((bt a0 x4_2) == 46) = true := beq_iff_eq.mpr c25
     have c25b1 : ((bt a0 x4_2) != 46) = false := bne_eq_false_iff_eq.mpr c25
     clear c25
     obtain ⟨ji26, hji26⟩ : ∃ j_ : Int, (wrap64 (x4_2 - 1)) = j_ := ⟨_, rfl⟩
     replace H : (if 0 ≤ (ji26) then (if (ji26) < (a0.size : Int) then (if (bt a0 (ji26)) = 46 then (some false) else (spec_l03Domain.l0 k2 a0 (a0.size : Int) (wrap64 (x4_2 + 1)))) else (none)) else (none)) = some r := by (rw [hji26] at H; exact H)
     have hji26w : (IntKind.i64.wrap (x4_2 - 1)) = ji26 := (i64_w _).trans hji26
     (try rw [c25b0])
     (try rw [c25b1])
     by_cases c27 : 0 ≤ (ji26)
     rotate_left
     · rw [if_neg c27] at H; exact absurd H (by simp)
     rw [if_pos c27] at H
     have c27b0 := decide_eq_true c27
     clear c27
     by_cases c28 : (ji26) < (a0.size : Int)
     rotate_left
     · rw [if_neg c28] at H; exact absurd H (by simp)
     rw [if_pos c28] at H
     have c28b0 := decide_eq_true c28
     clear c28
     by_cases c30 : (bt a0 (ji26)) = 46
     ·
      rw [if_pos c30] at H
      have c30b0 : ((bt a0 (ji26)) == 46) = true := beq_iff_eq.mpr c30
      have c30b1 : ((bt a0 (ji26)) != 46) = false := bne_eq_false_iff_eq.mpr c30
      clear c30
      obtain rfl := Option.some.inj H
      (try rw [c30b0])
      (try rw [c30b1])
      go_wp2_with (((with_reducible refine gate_callee (f := 43) rfl ?_); refine goesL_ (some 45) rfl rfl Tryd.func43 (by kernel_rfl) rfl #[.int .u8 (bt a0 x4_2), .string (⟨#[46, 45]⟩ : ByteArray)] rfl zb2_3 ?_; (with_reducible refine (spec_l03Plain.calls k2 (bt a0 x4_2) (⟨#[46, 45]⟩ : ByteArray) true _ A21.out).mono ?_); rintro e w' ⟨rfl, ⟨nd, rfl⟩⟩; refine ⟨_, rfl, ?_⟩; have p24 : 0 ≤ (x4_2 : Int) := of_decide_eq_true zb1_3; have q24 : x4_2 < (a0.size : Int) := of_decide_eq_true zb1_3; have hx24 := bt_at a0 x4_2; replace p24 := eq_true p24; replace q24 := eq_true q24; have p29 : 0 ≤ ((ji26) : Int) := of_decide_eq_true zb1_3; have q29 : (ji26) < (a0.size : Int) := of_decide_eq_true zb1_3; have hx29 := bt_at a0 (ji26); replace p29 := eq_true p29; replace q29 := eq_true q29))
      go_ret
      exact ⟨by rfl, by repeat (first | exact Drawn0.refl _ | apply Drawn0.step)⟩
     rw [if_neg c30] at H
     have c30b0 : ((bt a0 (ji26)) == 46) = false := beq_eq_false_iff_ne.mpr c30
     have c30b1 : ((bt a0 (ji26)) != 46) = true := bne_iff_ne.mpr c30
     have H' := Aside0.mk H
     clear H
     (try rw [c30b0])
     (try rw [c30b1])
     go_wp2_with (((with_reducible refine gate_callee (f := 43) rfl ?_); refine goesL_ (some 45) rfl rfl Tryd.func43 (by kernel_rfl) rfl #[.int .u8 (bt a0 x4_2), .string (⟨#[46, 45]⟩ : ByteArray)] rfl zb2_3 ?_; (with_reducible refine (spec_l03Plain.calls k2 (bt a0 x4_2) (⟨#[46, 45]⟩ : ByteArray) true _ A21.out).mono ?_); rintro e w' ⟨rfl, ⟨nd, rfl⟩⟩; refine ⟨_, rfl, ?_⟩; have p24 : 0 ≤ (x4_2 : Int) := of_decide_eq_true zb1_3; have q24 : x4_2 < (a0.size : Int) := of_decide_eq_true zb1_3; have hx24 := bt_at a0 x4_2; replace p24 := eq_true p24; replace q24 := eq_true q24; have p29 : 0 ≤ ((ji26) : Int) := of_decide_eq_true zb1_3; have q29 : (ji26) < (a0.size : Int) := of_decide_eq_true zb1_3; have hx29 := bt_at a0 (ji26); replace p29 := eq_true p29; replace q29 := eq_true q29))
     go_roundg k2
     case measure => have := HJ1.out; have := HK2.out; omega
     case rel => exact ⟨(wrap64 (x4_2 + 1)), zb0_3, H', ⟨by have := HJ1.out; have := HK2.out; omega⟩, by repeat (first | exact Drawn0.refl _ | apply Drawn0.step)⟩
/-! ### spec_l05Domain: function 30 -/
def spec_l05Domain.f (k : Nat) (a0 : ByteArray) : Option (Bool) := (spec_l03Domain.f k a0).bind fun t104 => (some t104)
theorem spec_l05Domain.mono : ∀ a0 k, LeO (spec_l05Domain.f k a0) (spec_l05Domain.f (k + 1) a0) := by
  intro a0 k
  unfold spec_l05Domain.f
  repeat' first
      | (with_reducible exact spec_l03Domain.mono _ _)
      | (with_reducible exact LeO.refl _)
      | (with_reducible exact LeO.none _)
      | (with_reducible refine LeO.ite ?_ ?_)
      | (with_reducible refine LeO.bind ?_ (fun _ => ?_))
      | exact spec_l03Domain.mono _ _
      | exact LeO.none _
      | refine LeO.ite ?_ ?_
      | refine LeO.bind ?_ (fun _ => ?_)
set_option maxHeartbeats 8000000 in
set_option maxRecDepth 100000 in
theorem spec_l05Domain.calls (k : Nat) (a0 : ByteArray) (r : Bool) (w : World) (h : spec_l05Domain.f k a0 = some r) :
    Calls Tryd.prog 30 #[.string a0] w fun e w' => e = .returned (.bool r) ∧ Drawn0 w w' := by
 have H : ((spec_l03Domain.f k a0).bind fun t104 => (some t104)) = some r := h
 clear h
 replace H := Option.bind_eq_some_iff.mp H
 obtain ⟨t104, A20, H⟩ := H
 replace H : (some t104) = some r := H
 have A2 := Aside0.mk A20
 clear A20
 obtain rfl := Option.some.inj H
 go_enter Tryd.func30, Tryd.ntmps30
 go_wp2_with (((with_reducible refine gate_callee (f := 39) rfl ?_); refine goesL_ (some 4) rfl rfl Tryd.func39 (by kernel_rfl) rfl #[.string a0] rfl zb2_3 ?_; (with_reducible refine (spec_l03Domain.calls k a0 t104 _ A2.out).mono ?_); rintro e w' ⟨rfl, ⟨nd, rfl⟩⟩; refine ⟨_, rfl, ?_⟩))
 go_ret
 exact ⟨by rfl, by repeat (first | exact Drawn0.refl _ | apply Drawn0.step)⟩
/-! ### spec_l03Is: function 33 -/
def spec_l03Is.f (a0 : Int) (a1 : Int) (a2 : Int) : Option (Bool) := if a0 ≥ a1 then (some (decide (a0 ≤ a2))) else (some false)
set_option maxHeartbeats 8000000 in
set_option maxRecDepth 100000 in
theorem spec_l03Is.calls (a0 : Int) (a1 : Int) (a2 : Int) (r : Bool) (w : World) (h : spec_l03Is.f a0 a1 a2 = some r) :
    Calls Tryd.prog 33 #[.int .i64 a0, .int .i64 a1, .int .i64 a2] w fun e w' => e = .returned (.bool r) ∧ Drawn0 w w' := by
 have H : (if a0 ≥ a1 then (some (decide (a0 ≤ a2))) else (some false)) = some r := h
 clear h
 go_enter Tryd.func33, Tryd.ntmps33
 by_cases c4 : a0 ≥ a1
 · rw [if_pos c4] at H; have c4b0 : decide (a1 ≤ a0) = true := decide_eq_true c4; clear c4; obtain rfl := Option.some.inj H; (try rw [c4b0]); go_wp2; go_ret; exact ⟨by rfl, by repeat ((exact Drawn0.refl _))⟩
 rw [if_neg c4] at H
 have c4b0 : decide (a1 ≤ a0) = false := decide_eq_false c4
 clear c4
 obtain rfl := Option.some.inj H
 (try rw [c4b0])
 go_wp2
 go_ret
 exact ⟨by rfl, by repeat ((exact Drawn0.refl _))⟩
end Go.Proofs.YtfijkimkdccioaaDoor.QFnDialback
