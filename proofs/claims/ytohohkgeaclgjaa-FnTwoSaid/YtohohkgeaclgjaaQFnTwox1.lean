-- laid by this session's own runner (wip/print2.py): not a printed file
import Derived.Test.YtohohkgeaclgjaaQFnTwox0
namespace Go.Proofs.Ytohohkgeaclgjaa.QFnTwo
open Go.RowKit Go.Proofs.YtohohkgeaclgjaaW.PrintWords Go.Proofs.YtohohkgeaclgjaaW.PrintLast Go.Proofs.YtohohkgeaclgjaaW.PrintMore
attribute [local go_sem] max2_int min2_int max_two min_two max_three min_three max_four min_four   -- for this text's walks alone
set_option linter.unusedVariables false
set_option linter.unusedSimpArgs false

theorem bcq_1 {w : World} {g t : Nat} {cs : Array Value} {v : Value} (h : w.heap[g]? = some (.cells cs t (0, 0))) (j : Nat) (e : cs[j]? = some v := by rfl) : w.cell? ⟨g, j, none⟩ = some v := (blk_cell h j).trans e
theorem zb0_1 {P : Prop} (h : P := by (try simp only [List.map_toArray, List.map_cons, List.map_nil]); first | done | rfl | (simp only [List.length_drop, List.length_take]; rfl)) : P := h
theorem zb1_1 {P : Prop} (h : P := by repeat (first | (with_reducible first | exact HB.out | apply below_alloc | apply pw_below_drewN | apply below_drew1) | exact HB.out)) : P := h
theorem zb2_1 {P : Prop} (h : P := by rw [hg]; exact (below_size (by repeat (first | (with_reducible first | exact HB.out | apply below_alloc | apply pw_below_drewN | apply below_drew1) | exact HB.out)))) : P := h
/-! ### laws_lwAt: function 4 -/
def laws_lwAt.f (l0 : List Int) (a1 : Int) (a2 : Int) : Option (Int) := if a2 ≤ 1 then (some 0) else (if (l0.length : Int) = 0 then (some 0) else (if 0 ≤ (Int.tmod a1 (l0.length : Int)) then (if (Int.tmod a1 (l0.length : Int)) < (l0.length : Int) then (if a2 = 0 then (none) else (some (Int.tmod (wrap64 (rd l0 (Int.tmod a1 (l0.length : Int)))) a2))) else (none)) else (none)))
set_option maxHeartbeats 8000000 in
set_option maxRecDepth 100000 in
theorem laws_lwAt.calls (A0 : Option Addr) (c0 : Nat) (l0 : List Int) (a1 : Int) (a2 : Int) (r : Int) (w : World) (hr0 : Kd.C (Kd.int .u8) w A0 l0.length l0) (hc0 : l0.length ≤ c0) (h : laws_lwAt.f l0 a1 a2 = some r) :
  Calls Try.prog 4 #[.slice A0 l0.length c0, .int .i64 a1, .int .i64 a2] w fun e w' => e = .returned (.int .i64 r) ∧ Drawn0 w w' := by
 have HR0 := Aside0.mk hr0
 have HC0 := Aside0.mk hc0
 clear hr0 hc0
 have H : (if a2 ≤ 1 then (some 0) else (if (l0.length : Int) = 0 then (some 0) else (if 0 ≤ (Int.tmod a1 (l0.length : Int)) then (if (Int.tmod a1 (l0.length : Int)) < (l0.length : Int) then (if a2 = 0 then (none) else (some (Int.tmod (wrap64 (rd l0 (Int.tmod a1 (l0.length : Int)))) a2))) else (none)) else (none)))) = some r := h
 clear h
 by_cases c4 : a2 ≤ 1
 ·
  rw [if_pos c4] at H
  have c4b0 : decide (a2 ≤ 1) = true := decide_eq_true c4
  clear c4
  obtain rfl := Option.some.inj H
  go_enter Try.func4, Try.ntmps4
  go_wp2
  go_ret
  exact ⟨by first | rfl | (simp; done) | (simp [*]; done), by repeat (first | exact Drawn0.refl _ | apply Drawn0.step)⟩
 ·
  rw [if_neg c4] at H
  have c4b0 : decide (a2 ≤ 1) = false := decide_eq_false c4
  clear c4
  by_cases c5 : (l0.length : Int) = 0
  ·
   rw [if_pos c5] at H
   have c5b0 : ((l0.length : Int) == 0) = true := beq_iff_eq.mpr c5
   have c5b1 : ((l0.length : Int) != 0) = false := bne_eq_false_iff_eq.mpr c5
   clear c5
   obtain rfl := Option.some.inj H
   go_enter Try.func4, Try.ntmps4
   go_wp2
   go_ret
   exact ⟨by first | rfl | (simp; done) | (simp [*]; done), by repeat (first | exact Drawn0.refl _ | apply Drawn0.step)⟩
  ·
   rw [if_neg c5] at H
   have c5b0 : ((l0.length : Int) == 0) = false := beq_eq_false_iff_ne.mpr c5
   have c5b1 : ((l0.length : Int) != 0) = true := bne_iff_ne.mpr c5
   have c5b2 : ¬ (l0 = []) := fun h_ => c5 (by rw [h_]; rfl)
   obtain ⟨ji6, hji6⟩ : ∃ j_ : Int, (Int.tmod a1 (l0.length : Int)) = j_ := ⟨_, rfl⟩
   replace H : (if 0 ≤ (ji6) then (if (ji6) < (l0.length : Int) then (if a2 = 0 then (none) else (some (Int.tmod (wrap64 (rd l0 (ji6))) a2))) else (none)) else (none)) = some r := by first | (rw [hji6] at H; exact H) | (simp only [hji6] at H ⊢; exact H)
   by_cases c7 : 0 ≤ (ji6)
   ·
    rw [if_pos c7] at H
    have c7b0 : decide (0 ≤ (ji6)) = true := decide_eq_true c7
    clear c7
    by_cases c8 : (ji6) < (l0.length : Int)
    ·
     rw [if_pos c8] at H
     have c8b0 : decide ((ji6) < (l0.length : Int)) = true := decide_eq_true c8
     clear c8
     by_cases c9 : a2 = 0
     ·
      rw [if_pos c9] at H
      exact absurd H (by simp)
     ·
      rw [if_neg c9] at H
      have c9b0 : (a2 == 0) = false := beq_eq_false_iff_ne.mpr c9
      have c9b1 : (a2 != 0) = true := bne_iff_ne.mpr c9
      obtain rfl := Option.some.inj H
      have p101 : 0 ≤ ((ji6) : Int) := of_decide_eq_true (by first | (with_reducible assumption) | assumption)
      have q101 : (ji6) < (l0.length : Int) := of_decide_eq_true (by first | (with_reducible assumption) | assumption)
      obtain ⟨ad101, e101, hx101_0⟩ := Kd.at_int HR0.out (ji6) p101 q101
      cases e101
      replace p101 := eq_true p101
      replace q101 := eq_true q101
      go_enter Try.func4, Try.ntmps4
      go_wp2
      go_ret
      exact ⟨by first | rfl | (simp; done) | (simp only [← hji6] <;> (first | rfl | simp)) | (simp [*]; done), by repeat (first | exact Drawn0.refl _ | apply Drawn0.step)⟩
    ·
     rw [if_neg c8] at H
     exact absurd H (by simp)
   ·
    rw [if_neg c7] at H
    exact absurd H (by simp)

/-! ### impl_in: function 15 -/
def impl_in.f (a0 : Int) (a1 : Int) (a2 : Int) : Option (Bool) := if a0 ≥ a1 then (some (decide (a0 ≤ a2))) else (some false)
set_option maxHeartbeats 8000000 in
set_option maxRecDepth 100000 in
theorem impl_in.calls (a0 : Int) (a1 : Int) (a2 : Int) (r : Bool) (w : World) (h : impl_in.f a0 a1 a2 = some r) :
  Calls Try.prog 15 #[.int .i64 a0, .int .i64 a1, .int .i64 a2] w fun e w' => e = .returned (.bool r) ∧ Drawn0 w w' := by
 have H : (if a0 ≥ a1 then (some (decide (a0 ≤ a2))) else (some false)) = some r := h
 clear h
 by_cases c4 : a0 ≥ a1
 ·
  rw [if_pos c4] at H
  have c4b0 : decide (a1 ≤ a0) = true := decide_eq_true c4
  clear c4
  obtain rfl := Option.some.inj H
  go_enter Try.func15, Try.ntmps15
  go_wp2
  go_ret
  exact ⟨by first | rfl | (simp; done) | (simp [*]; done), by repeat (first | exact Drawn0.refl _ | apply Drawn0.step)⟩
 ·
  rw [if_neg c4] at H
  have c4b0 : decide (a1 ≤ a0) = false := decide_eq_false c4
  clear c4
  obtain rfl := Option.some.inj H
  go_enter Try.func15, Try.ntmps15
  go_wp2
  go_ret
  exact ⟨by first | rfl | (simp; done) | (simp [*]; done), by repeat (first | exact Drawn0.refl _ | apply Drawn0.step)⟩

/-! ### impl_isTime: function 13 -/
def impl_isTime.f (a0 : Int) : Option (Bool) := (impl_in.f a0 0 1000000000).bind fun t102 => (some t102)
set_option maxHeartbeats 8000000 in
set_option maxRecDepth 100000 in
theorem impl_isTime.calls (a0 : Int) (r : Bool) (w : World) (h : impl_isTime.f a0 = some r) :
  Calls Try.prog 13 #[.int .i64 a0] w fun e w' => e = .returned (.bool r) ∧ Drawn0 w w' := by
 have H : ((impl_in.f a0 0 1000000000).bind fun t102 => (some t102)) = some r := h
 clear h
 replace H := Option.bind_eq_some_iff.mp H
 obtain ⟨t102, A20, H⟩ := H
 replace H : (some t102) = some r := H
 have A2 := Aside0.mk A20
 clear A20
 obtain rfl := Option.some.inj H
 go_enter Try.func13, Try.ntmps13
 go_wp2_with (first | ((with_reducible refine gate_callee (f := 15) rfl ?_); refine goesL_ (some 4) rfl rfl Try.func15 (by kernel_rfl) rfl #[.int .i64 a0, .int .i64 0, .int .i64 1000000000] rfl zb0_1 ?_; (with_reducible refine (impl_in.calls a0 0 1000000000 t102 _ A2.out).mono ?_); rintro e w' ⟨rfl, ⟨nd, rfl⟩⟩; refine ⟨_, rfl, ?_⟩))
 go_ret
 exact ⟨by first | rfl | (simp; done) | (simp [*]; done), by repeat (first | exact Drawn0.refl _ | apply Drawn0.step)⟩

/-! ### impl_pairOk: function 14 -/
def impl_pairOk.f (a0 : Int) (a1 : Int) (a2 : Int) : Option (Bool) := (impl_in.f a0 0 a2).bind fun t103 => (if t103 = true then ((impl_in.f a1 0 a2).bind fun t104 => (if t104 = true then (if a0 = 0 then (some true) else (some (a1 == 0))) else (some false))) else (some false))
set_option maxHeartbeats 8000000 in
set_option maxRecDepth 100000 in
theorem impl_pairOk.calls (a0 : Int) (a1 : Int) (a2 : Int) (r : Bool) (w : World) (h : impl_pairOk.f a0 a1 a2 = some r) :
  Calls Try.prog 14 #[.int .i64 a0, .int .i64 a1, .int .i64 a2] w fun e w' => e = .returned (.bool r) ∧ Drawn0 w w' := by
 have H : ((impl_in.f a0 0 a2).bind fun t103 => (if t103 = true then ((impl_in.f a1 0 a2).bind fun t104 => (if t104 = true then (if a0 = 0 then (some true) else (some (a1 == 0))) else (some false))) else (some false))) = some r := h
 clear h
 replace H := Option.bind_eq_some_iff.mp H
 obtain ⟨t103, A40, H⟩ := H
 replace H : (if t103 = true then ((impl_in.f a1 0 a2).bind fun t104 => (if t104 = true then (if a0 = 0 then (some true) else (some (a1 == 0))) else (some false))) else (some false)) = some r := H
 have A4 := Aside0.mk A40
 clear A40
 by_cases c5 : t103 = true
 ·
  subst c5
  have H1 : ((impl_in.f a1 0 a2).bind fun t104 => (if t104 = true then (if a0 = 0 then (some true) else (some (a1 == 0))) else (some false))) = some r := by rw [if_pos rfl] at H; exact H
  clear H
  have H := H1
  clear H1
  replace H := Option.bind_eq_some_iff.mp H
  obtain ⟨t104, A60, H⟩ := H
  replace H : (if t104 = true then (if a0 = 0 then (some true) else (some (a1 == 0))) else (some false)) = some r := H
  have A6 := Aside0.mk A60
  clear A60
  by_cases c7 : t104 = true
  ·
   subst c7
   have H1 : (if a0 = 0 then (some true) else (some (a1 == 0))) = some r := by rw [if_pos rfl] at H; exact H
   clear H
   have H := H1
   clear H1
   by_cases c8 : a0 = 0
   ·
    rw [if_pos c8] at H
    have c8b0 : (a0 == 0) = true := beq_iff_eq.mpr c8
    have c8b1 : (a0 != 0) = false := bne_eq_false_iff_eq.mpr c8
    clear c8
    obtain rfl := Option.some.inj H
    go_enter Try.func14, Try.ntmps14
    go_wp2_with (first | ((with_reducible refine gate_callee (f := 15) rfl ?_); refine goesL_ (some 9) rfl rfl Try.func15 (by kernel_rfl) rfl #[.int .i64 a0, .int .i64 0, .int .i64 a2] rfl zb0_1 ?_; (with_reducible refine (impl_in.calls a0 0 a2 true _ A4.out).mono ?_); rintro e w' ⟨rfl, ⟨nd, rfl⟩⟩; refine ⟨_, rfl, ?_⟩) | (go_at_call 15; (with_reducible refine (impl_in.calls a1 0 a2 true _ A6.out).mono ?_); rintro e w' ⟨rfl, ⟨nd, rfl⟩⟩))
    go_ret
    exact ⟨by first | rfl | (simp; done) | (simp [*]; done), by repeat (first | exact Drawn0.refl _ | apply Drawn0.step)⟩
   ·
    rw [if_neg c8] at H
    have c8b0 : (a0 == 0) = false := beq_eq_false_iff_ne.mpr c8
    have c8b1 : (a0 != 0) = true := bne_iff_ne.mpr c8
    obtain rfl := Option.some.inj H
    go_enter Try.func14, Try.ntmps14
    go_wp2_with (first | ((with_reducible refine gate_callee (f := 15) rfl ?_); refine goesL_ (some 9) rfl rfl Try.func15 (by kernel_rfl) rfl #[.int .i64 a0, .int .i64 0, .int .i64 a2] rfl zb0_1 ?_; (with_reducible refine (impl_in.calls a0 0 a2 true _ A4.out).mono ?_); rintro e w' ⟨rfl, ⟨nd, rfl⟩⟩; refine ⟨_, rfl, ?_⟩) | (go_at_call 15; (with_reducible refine (impl_in.calls a1 0 a2 true _ A6.out).mono ?_); rintro e w' ⟨rfl, ⟨nd, rfl⟩⟩))
    go_ret
    exact ⟨by first | rfl | (simp; done) | (simp [*]; done), by repeat (first | exact Drawn0.refl _ | apply Drawn0.step)⟩
  ·
   replace c7 := Bool.eq_false_iff.mpr c7
   subst c7
   have H1 : (some false) = some r := by rw [if_neg (show ¬ (false = true) by decide)] at H; exact H
   clear H
   have H := H1
   clear H1
   obtain rfl := Option.some.inj H
   go_enter Try.func14, Try.ntmps14
   go_wp2_with (first | ((with_reducible refine gate_callee (f := 15) rfl ?_); refine goesL_ (some 9) rfl rfl Try.func15 (by kernel_rfl) rfl #[.int .i64 a0, .int .i64 0, .int .i64 a2] rfl zb0_1 ?_; (with_reducible refine (impl_in.calls a0 0 a2 true _ A4.out).mono ?_); rintro e w' ⟨rfl, ⟨nd, rfl⟩⟩; refine ⟨_, rfl, ?_⟩) | (go_at_call 15; (with_reducible refine (impl_in.calls a1 0 a2 false _ A6.out).mono ?_); rintro e w' ⟨rfl, ⟨nd, rfl⟩⟩))
   go_ret
   exact ⟨by first | rfl | (simp; done) | (simp [*]; done), by repeat (first | exact Drawn0.refl _ | apply Drawn0.step)⟩
 ·
  replace c5 := Bool.eq_false_iff.mpr c5
  subst c5
  have H1 : (some false) = some r := by rw [if_neg (show ¬ (false = true) by decide)] at H; exact H
  clear H
  have H := H1
  clear H1
  obtain rfl := Option.some.inj H
  go_enter Try.func14, Try.ntmps14
  go_wp2_with (first | ((with_reducible refine gate_callee (f := 15) rfl ?_); refine goesL_ (some 9) rfl rfl Try.func15 (by kernel_rfl) rfl #[.int .i64 a0, .int .i64 0, .int .i64 a2] rfl zb0_1 ?_; (with_reducible refine (impl_in.calls a0 0 a2 false _ A4.out).mono ?_); rintro e w' ⟨rfl, ⟨nd, rfl⟩⟩; refine ⟨_, rfl, ?_⟩))
  go_ret
  exact ⟨by first | rfl | (simp; done) | (simp [*]; done), by repeat (first | exact Drawn0.refl _ | apply Drawn0.step)⟩

/-! ### impl_HalfRight: function 8 -/
def impl_HalfRight.f (a0_0 : Int) (a0_1 : Int) (a0_2 : Int) (a0_3 : Int) (a0_4 : Int) : Option (Bool) := (impl_isTime.f a0_0).bind fun t106 => (if t106 = true then ((impl_pairOk.f a0_1 a0_2 a0_0).bind fun t107 => (if t107 = true then ((impl_pairOk.f a0_3 a0_4 1000000000).bind fun t108 => (some t108)) else (some false))) else (some false))
set_option maxHeartbeats 8000000 in
set_option maxRecDepth 100000 in
theorem impl_HalfRight.calls (a0_0 : Int) (a0_1 : Int) (a0_2 : Int) (a0_3 : Int) (a0_4 : Int) (r : Bool) (w : World) (h : impl_HalfRight.f a0_0 a0_1 a0_2 a0_3 a0_4 = some r) :
  Calls Try.prog 8 #[.agg #[.int .i64 a0_0, .int .i64 a0_1, .int .i64 a0_2, .int .i64 a0_3, .int .i64 a0_4]] w fun e w' => e = .returned (.bool r) ∧ Below w.heap.size w w' := by
 have hu24 := Try.underlying24
 have HB := Aside0.mk (Below.refl w.heap.size w)
 have H : ((impl_isTime.f a0_0).bind fun t106 => (if t106 = true then ((impl_pairOk.f a0_1 a0_2 a0_0).bind fun t107 => (if t107 = true then ((impl_pairOk.f a0_3 a0_4 1000000000).bind fun t108 => (some t108)) else (some false))) else (some false))) = some r := h
 clear h
 replace H := Option.bind_eq_some_iff.mp H
 obtain ⟨t106, A20, H⟩ := H
 replace H : (if t106 = true then ((impl_pairOk.f a0_1 a0_2 a0_0).bind fun t107 => (if t107 = true then ((impl_pairOk.f a0_3 a0_4 1000000000).bind fun t108 => (some t108)) else (some false))) else (some false)) = some r := H
 have A2 := Aside0.mk A20
 clear A20
 by_cases c3 : t106 = true
 ·
  subst c3
  have H1 : ((impl_pairOk.f a0_1 a0_2 a0_0).bind fun t107 => (if t107 = true then ((impl_pairOk.f a0_3 a0_4 1000000000).bind fun t108 => (some t108)) else (some false))) = some r := by rw [if_pos rfl] at H; exact H
  clear H
  have H := H1
  clear H1
  replace H := Option.bind_eq_some_iff.mp H
  obtain ⟨t107, A40, H⟩ := H
  replace H : (if t107 = true then ((impl_pairOk.f a0_3 a0_4 1000000000).bind fun t108 => (some t108)) else (some false)) = some r := H
  have A4 := Aside0.mk A40
  clear A40
  by_cases c5 : t107 = true
  ·
   subst c5
   have H1 : ((impl_pairOk.f a0_3 a0_4 1000000000).bind fun t108 => (some t108)) = some r := by rw [if_pos rfl] at H; exact H
   clear H
   have H := H1
   clear H1
   replace H := Option.bind_eq_some_iff.mp H
   obtain ⟨t108, A60, H⟩ := H
   replace H : (some t108) = some r := H
   have A6 := Aside0.mk A60
   clear A60
   obtain rfl := Option.some.inj H
   go_enter Try.func8, Try.ntmps8
   go_wp2_with (first | ((with_reducible refine gate_dst (N := 1) rfl ?_); refine box_event ?hg (N := 1) ?hd (cs := #[.int .i64 a0_0, .int .i64 a0_1, .int .i64 a0_2, .int .i64 a0_3, .int .i64 a0_4]) (t := 24) ?hr ?_; (case hd => rfl); (case hg => rfl); (case hr => first | (go_simp; done) | (go_simp; rfl)); intro gb105 hg w7 hbox hb; have n0_ := Aside0.mk (below_step zb1_1 hb); have n1_ := Aside0.mk (hbox); have n2_ := Aside0.mk ((zb2_1 : w.heap.size ≤ gb105)); have n3_ := Aside0.mk ((zb2_1 : w.heap.size ≤ gb105)); clear HB; have HB := n0_; have BK105 := n1_; have GW105 := n2_; have GE105 := n3_; clear n0_ n1_ n2_ n3_; clear hb hbox hg; have hcz8_0 := bcq_1 BK105.out 0; have hcz8_1 := bcq_1 BK105.out 1; have hcz8_2 := bcq_1 BK105.out 2; have hcz8_3 := bcq_1 BK105.out 3; have hcz8_4 := bcq_1 BK105.out 4; have hfz8_0 := blk_frozen BK105.out 0; have hfz8_1 := blk_frozen BK105.out 1; have hfz8_2 := blk_frozen BK105.out 2; have hfz8_3 := blk_frozen BK105.out 3; have hfz8_4 := blk_frozen BK105.out 4) | ((with_reducible refine gate_callee (f := 13) rfl ?_); refine goesL_ (some 5) rfl rfl Try.func13 (by kernel_rfl) rfl #[.int .i64 a0_0] rfl zb0_1 ?_; (with_reducible refine (impl_isTime.calls a0_0 true _ A2.out).mono ?_); rintro e w' ⟨rfl, ⟨nd, rfl⟩⟩; refine ⟨_, rfl, ?_⟩) | (go_at_call 14; (with_reducible refine (impl_pairOk.calls a0_1 a0_2 a0_0 true _ A4.out).mono ?_); rintro e w' ⟨rfl, ⟨nd, rfl⟩⟩) | (go_at_call 14; (with_reducible refine (impl_pairOk.calls a0_3 a0_4 1000000000 t108 _ A6.out).mono ?_); rintro e w' ⟨rfl, ⟨nd, rfl⟩⟩))
   go_ret
   exact ⟨by first | rfl | (simp [errW_none, errW_some] <;> rfl) | (simp [*, errW_none, errW_some] <;> rfl), by repeat (first | (with_reducible first | exact HB.out | apply below_alloc | apply pw_below_drewN | apply below_drew1 | refine below_set ?_ GE105.out) | exact HB.out)⟩
  ·
   replace c5 := Bool.eq_false_iff.mpr c5
   subst c5
   have H1 : (some false) = some r := by rw [if_neg (show ¬ (false = true) by decide)] at H; exact H
   clear H
   have H := H1
   clear H1
   obtain rfl := Option.some.inj H
   go_enter Try.func8, Try.ntmps8
   go_wp2_with (first | ((with_reducible refine gate_dst (N := 1) rfl ?_); refine box_event ?hg (N := 1) ?hd (cs := #[.int .i64 a0_0, .int .i64 a0_1, .int .i64 a0_2, .int .i64 a0_3, .int .i64 a0_4]) (t := 24) ?hr ?_; (case hd => rfl); (case hg => rfl); (case hr => first | (go_simp; done) | (go_simp; rfl)); intro gb105 hg w9 hbox hb; have n0_ := Aside0.mk (below_step zb1_1 hb); have n1_ := Aside0.mk (hbox); have n2_ := Aside0.mk ((zb2_1 : w.heap.size ≤ gb105)); have n3_ := Aside0.mk ((zb2_1 : w.heap.size ≤ gb105)); clear HB; have HB := n0_; have BK105 := n1_; have GW105 := n2_; have GE105 := n3_; clear n0_ n1_ n2_ n3_; clear hb hbox hg; have hcz10_0 := bcq_1 BK105.out 0; have hcz10_1 := bcq_1 BK105.out 1; have hcz10_2 := bcq_1 BK105.out 2; have hcz10_3 := bcq_1 BK105.out 3; have hcz10_4 := bcq_1 BK105.out 4; have hfz10_0 := blk_frozen BK105.out 0; have hfz10_1 := blk_frozen BK105.out 1; have hfz10_2 := blk_frozen BK105.out 2; have hfz10_3 := blk_frozen BK105.out 3; have hfz10_4 := blk_frozen BK105.out 4) | ((with_reducible refine gate_callee (f := 13) rfl ?_); refine goesL_ (some 5) rfl rfl Try.func13 (by kernel_rfl) rfl #[.int .i64 a0_0] rfl zb0_1 ?_; (with_reducible refine (impl_isTime.calls a0_0 true _ A2.out).mono ?_); rintro e w' ⟨rfl, ⟨nd, rfl⟩⟩; refine ⟨_, rfl, ?_⟩) | (go_at_call 14; (with_reducible refine (impl_pairOk.calls a0_1 a0_2 a0_0 false _ A4.out).mono ?_); rintro e w' ⟨rfl, ⟨nd, rfl⟩⟩))
   go_ret
   exact ⟨by first | rfl | (simp [errW_none, errW_some] <;> rfl) | (simp [*, errW_none, errW_some] <;> rfl), by repeat (first | (with_reducible first | exact HB.out | apply below_alloc | apply pw_below_drewN | apply below_drew1 | refine below_set ?_ GE105.out) | exact HB.out)⟩
 ·
  replace c3 := Bool.eq_false_iff.mpr c3
  subst c3
  have H1 : (some false) = some r := by rw [if_neg (show ¬ (false = true) by decide)] at H; exact H
  clear H
  have H := H1
  clear H1
  obtain rfl := Option.some.inj H
  go_enter Try.func8, Try.ntmps8
  go_wp2_with (first | ((with_reducible refine gate_dst (N := 1) rfl ?_); refine box_event ?hg (N := 1) ?hd (cs := #[.int .i64 a0_0, .int .i64 a0_1, .int .i64 a0_2, .int .i64 a0_3, .int .i64 a0_4]) (t := 24) ?hr ?_; (case hd => rfl); (case hg => rfl); (case hr => first | (go_simp; done) | (go_simp; rfl)); intro gb105 hg w11 hbox hb; have n0_ := Aside0.mk (below_step zb1_1 hb); have n1_ := Aside0.mk (hbox); have n2_ := Aside0.mk ((zb2_1 : w.heap.size ≤ gb105)); have n3_ := Aside0.mk ((zb2_1 : w.heap.size ≤ gb105)); clear HB; have HB := n0_; have BK105 := n1_; have GW105 := n2_; have GE105 := n3_; clear n0_ n1_ n2_ n3_; clear hb hbox hg; have hcz12_0 := bcq_1 BK105.out 0; have hcz12_1 := bcq_1 BK105.out 1; have hcz12_2 := bcq_1 BK105.out 2; have hcz12_3 := bcq_1 BK105.out 3; have hcz12_4 := bcq_1 BK105.out 4; have hfz12_0 := blk_frozen BK105.out 0; have hfz12_1 := blk_frozen BK105.out 1; have hfz12_2 := blk_frozen BK105.out 2; have hfz12_3 := blk_frozen BK105.out 3; have hfz12_4 := blk_frozen BK105.out 4) | ((with_reducible refine gate_callee (f := 13) rfl ?_); refine goesL_ (some 5) rfl rfl Try.func13 (by kernel_rfl) rfl #[.int .i64 a0_0] rfl zb0_1 ?_; (with_reducible refine (impl_isTime.calls a0_0 false _ A2.out).mono ?_); rintro e w' ⟨rfl, ⟨nd, rfl⟩⟩; refine ⟨_, rfl, ?_⟩))
  go_ret
  exact ⟨by first | rfl | (simp [errW_none, errW_some] <;> rfl) | (simp [*, errW_none, errW_some] <;> rfl), by repeat (first | (with_reducible first | exact HB.out | apply below_alloc | apply pw_below_drewN | apply below_drew1 | refine below_set ?_ GE105.out) | exact HB.out)⟩

/-! ### impl_isSubKind: function 9 -/
def impl_isSubKind.f (a0 : Int) : Option (Bool) := (impl_in.f a0 1 4).bind fun t109 => (some t109)
set_option maxHeartbeats 8000000 in
set_option maxRecDepth 100000 in
theorem impl_isSubKind.calls (a0 : Int) (r : Bool) (w : World) (h : impl_isSubKind.f a0 = some r) :
  Calls Try.prog 9 #[.int .i64 a0] w fun e w' => e = .returned (.bool r) ∧ Drawn0 w w' := by
 have H : ((impl_in.f a0 1 4).bind fun t109 => (some t109)) = some r := h
 clear h
 replace H := Option.bind_eq_some_iff.mp H
 obtain ⟨t109, A20, H⟩ := H
 replace H : (some t109) = some r := H
 have A2 := Aside0.mk A20
 clear A20
 obtain rfl := Option.some.inj H
 go_enter Try.func9, Try.ntmps9
 go_wp2_with (first | ((with_reducible refine gate_callee (f := 15) rfl ?_); refine goesL_ (some 4) rfl rfl Try.func15 (by kernel_rfl) rfl #[.int .i64 a0, .int .i64 1, .int .i64 4] rfl zb0_1 ?_; (with_reducible refine (impl_in.calls a0 1 4 t109 _ A2.out).mono ?_); rintro e w' ⟨rfl, ⟨nd, rfl⟩⟩; refine ⟨_, rfl, ?_⟩))
 go_ret
 exact ⟨by first | rfl | (simp; done) | (simp [*]; done), by repeat (first | exact Drawn0.refl _ | apply Drawn0.step)⟩

-- NOT PRINTED: function 10 (impl_Half_say)

/-! ### impl_HalfSay: function 5: by hand -/
/-- What HalfSay answers. -/
def impl_HalfSay.ill (c : Int) : Int × Int × Int × Int × Int × (List (S32)) × Int := (0, 0, 0, 0, 0, ([] : List (S32)), c)
def impl_HalfSay.say (n o t i f kind : Int) : Int × Int × Int × Int × Int × (List (S32)) × Int :=
 if kind = 1 then (if o = 0 then (if t = 0 then (if n = 1000000000 then impl_HalfSay.ill 9 else (n + 1, n + 1, 0, i, f, [(⟨1, n + 1⟩ : S32)], 0)) else impl_HalfSay.ill 10) else impl_HalfSay.ill 10)
 else if kind = 3 then (if o + t = 0 then impl_HalfSay.ill 10 else (n, 0, 0, i, f, [(⟨3, o + t⟩ : S32)], 0))
 else if kind = 2 then (if i = 0 then impl_HalfSay.ill 10 else (n, o, t, 0, i, [(⟨2, i⟩ : S32)], 0))
 else (if i + f = 0 then impl_HalfSay.ill 10 else (n, o, t, 0, 0, [(⟨4, i + f⟩ : S32)], 0))
def impl_HalfSay.f (a0_0 : Int) (a0_1 : Int) (a0_2 : Int) (a0_3 : Int) (a0_4 : Int) (a1 : Int) : Option (Int × Int × Int × Int × Int × (List (S32)) × Int) :=
 (impl_HalfRight.f a0_0 a0_1 a0_2 a0_3 a0_4).bind fun b => if b = true then (if 1 ≤ a1 ∧ a1 ≤ 4 then some (impl_HalfSay.say a0_0 a0_1 a0_2 a0_3 a0_4 a1) else some (impl_HalfSay.ill 1)) else some (impl_HalfSay.ill 1)
theorem impl_HalfSay.bc {w : World} {g t : Nat} {cs : Array Value} {v : Value} (h : w.heap[g]? = some (.cells cs t (0, 0))) (j : Nat) (e : cs[j]? = some v := by rfl) : w.cell? ⟨g, j, none⟩ = some v := (blk_cell h j).trans e
theorem impl_HalfSay.in_dec (x l m : Int) : impl_in.f x l m = some (decide (l ≤ x ∧ x ≤ m)) := by
 unfold impl_in.f
 by_cases c1 : x ≥ l
 ·
  rw [if_pos c1]
  by_cases c2 : x ≤ m
  ·
   rw [decide_eq_true c2, decide_eq_true (⟨c1, c2⟩ : l ≤ x ∧ x ≤ m)]
  ·
   rw [decide_eq_false c2, decide_eq_false (fun h : l ≤ x ∧ x ≤ m => c2 h.2)]
 ·
  rw [if_neg c1, decide_eq_false (fun h : l ≤ x ∧ x ≤ m => c1 h.1)]
theorem impl_HalfSay.pair_dec (a b m : Int) : impl_pairOk.f a b m = some (decide (0 ≤ a ∧ a ≤ m ∧ 0 ≤ b ∧ b ≤ m ∧ (a = 0 ∨ b = 0))) := by
 unfold impl_pairOk.f
 rw [impl_HalfSay.in_dec, impl_HalfSay.in_dec]
 by_cases c1 : 0 ≤ a ∧ a ≤ m
 ·
  rw [decide_eq_true c1]
  simp only [Option.bind_some, if_true]
  by_cases c2 : 0 ≤ b ∧ b ≤ m
  ·
   rw [decide_eq_true c2]
   simp only [Option.bind_some, if_true]
   by_cases c3 : a = 0
   ·
    rw [if_pos c3, decide_eq_true (⟨c1.1, c1.2, c2.1, c2.2, .inl c3⟩ : 0 ≤ a ∧ a ≤ m ∧ 0 ≤ b ∧ b ≤ m ∧ (a = 0 ∨ b = 0))]
   ·
    rw [if_neg c3]
    by_cases c4 : b = 0
    ·
     rw [beq_iff_eq.mpr c4, decide_eq_true (⟨c1.1, c1.2, c2.1, c2.2, .inr c4⟩ : 0 ≤ a ∧ a ≤ m ∧ 0 ≤ b ∧ b ≤ m ∧ (a = 0 ∨ b = 0))]
    ·
     rw [beq_eq_false_iff_ne.mpr c4, decide_eq_false (fun h : 0 ≤ a ∧ a ≤ m ∧ 0 ≤ b ∧ b ≤ m ∧ (a = 0 ∨ b = 0) => h.2.2.2.2.elim c3 c4)]
  ·
   rw [decide_eq_false c2, decide_eq_false (fun h : 0 ≤ a ∧ a ≤ m ∧ 0 ≤ b ∧ b ≤ m ∧ (a = 0 ∨ b = 0) => c2 ⟨h.2.2.1, h.2.2.2.1⟩)]
   rfl
 ·
  rw [decide_eq_false c1, decide_eq_false (fun h : 0 ≤ a ∧ a ≤ m ∧ 0 ≤ b ∧ b ≤ m ∧ (a = 0 ∨ b = 0) => c1 ⟨h.1, h.2.1⟩)]
  rfl
theorem impl_HalfSay.and3 {A B C : Prop} [Decidable A] [Decidable B] [Decidable C] : ((some (decide A)).bind fun x => if x = true then ((some (decide B)).bind fun y => if y = true then ((some (decide C)).bind fun z => some z) else some false) else some false) = some (decide (A ∧ B ∧ C)) := by
 by_cases c1 : A <;> by_cases c2 : B <;> by_cases c3 : C <;> simp [c1, c2, c3]
theorem impl_HalfSay.right_dec (n o t i f : Int) : impl_HalfRight.f n o t i f = some (decide ((0 ≤ n ∧ n ≤ 1000000000) ∧ (0 ≤ o ∧ o ≤ n ∧ 0 ≤ t ∧ t ≤ n ∧ (o = 0 ∨ t = 0)) ∧ (0 ≤ i ∧ i ≤ 1000000000 ∧ 0 ≤ f ∧ f ≤ 1000000000 ∧ (i = 0 ∨ f = 0)))) := by
 unfold impl_HalfRight.f impl_isTime.f
 rw [impl_HalfSay.pair_dec, impl_HalfSay.pair_dec, impl_HalfSay.in_dec]
 exact impl_HalfSay.and3
theorem impl_HalfSay.kind_dec (k : Int) : impl_isSubKind.f k = some (decide (1 ≤ k ∧ k ≤ 4)) := by
 unfold impl_isSubKind.f
 rw [impl_HalfSay.in_dec]
 rfl
theorem impl_HalfSay.w64 (x : Int) (h0 : 0 ≤ x) (h1 : x ≤ 3000000000) : wrap64 x = x := by
 unfold wrap64
 omega
set_option maxHeartbeats 8000000 in
set_option maxRecDepth 100000 in
theorem impl_HalfSay.ask_o (g : Nat) (n o t i f : Int) (w : World) (hb : w.heap[g]? = some (.cells #[.int .i64 n, .int .i64 o, .int .i64 t, .int .i64 i, .int .i64 f] 24 (0, 0))) (h1 : (o != 0) = true) :
  Calls Try.prog 10 #[.pointer (some ⟨g, 0, none⟩), .int .i64 1] w fun e w' => e = .returned (.tuple #[.int .i64 0, .int .i64 10]) ∧ w'.heap[g]? = some (.cells #[.int .i64 n, .int .i64 o, .int .i64 t, .int .i64 i, .int .i64 f] 24 (0, 0)) ∧ (∀ k_, k_ ≠ g → w'.heap[k_]? = w.heap[k_]?) ∧ ∀ B w0, Below B w0 w → B ≤ g → Below B w0 w' := by
 have HB := Aside0.mk hb
 have hc0 : w.cell? ⟨g, 0, none⟩ = some (.int .i64 n) := (blk_cell hb 0).trans rfl
 have hf0 := blk_frozen hb 0
 have hc1 : w.cell? ⟨g, 1, none⟩ = some (.int .i64 o) := (blk_cell hb 1).trans rfl
 have hf1 := blk_frozen hb 1
 have hc2 : w.cell? ⟨g, 2, none⟩ = some (.int .i64 t) := (blk_cell hb 2).trans rfl
 have hf2 := blk_frozen hb 2
 have hc3 : w.cell? ⟨g, 3, none⟩ = some (.int .i64 i) := (blk_cell hb 3).trans rfl
 have hf3 := blk_frozen hb 3
 have hc4 : w.cell? ⟨g, 4, none⟩ = some (.int .i64 f) := (blk_cell hb 4).trans rfl
 have hf4 := blk_frozen hb 4
 clear hb
 go_enter Try.func10, Try.ntmps10
 go_wp2
 all_goals go_ret2
 all_goals exact ⟨rfl, by (with_reducible repeat (first | refine blk_drewN ?_ _ | refine blk_drew ?_)); exact HB.out, fun k_ hk => rfl, fun B w0 h hg => by repeat (first | exact h | apply below_drew | refine Below.setCell ?_ hg _)⟩
set_option maxHeartbeats 8000000 in
set_option maxRecDepth 100000 in
theorem impl_HalfSay.ask_t (g : Nat) (n t i f : Int) (w : World) (hb : w.heap[g]? = some (.cells #[.int .i64 n, .int .i64 0, .int .i64 t, .int .i64 i, .int .i64 f] 24 (0, 0))) (h1 : (t != 0) = true) :
  Calls Try.prog 10 #[.pointer (some ⟨g, 0, none⟩), .int .i64 1] w fun e w' => e = .returned (.tuple #[.int .i64 0, .int .i64 10]) ∧ w'.heap[g]? = some (.cells #[.int .i64 n, .int .i64 0, .int .i64 t, .int .i64 i, .int .i64 f] 24 (0, 0)) ∧ (∀ k_, k_ ≠ g → w'.heap[k_]? = w.heap[k_]?) ∧ ∀ B w0, Below B w0 w → B ≤ g → Below B w0 w' := by
 have HB := Aside0.mk hb
 have hc0 : w.cell? ⟨g, 0, none⟩ = some (.int .i64 n) := (blk_cell hb 0).trans rfl
 have hf0 := blk_frozen hb 0
 have hc1 : w.cell? ⟨g, 1, none⟩ = some (.int .i64 0) := (blk_cell hb 1).trans rfl
 have hf1 := blk_frozen hb 1
 have hc2 : w.cell? ⟨g, 2, none⟩ = some (.int .i64 t) := (blk_cell hb 2).trans rfl
 have hf2 := blk_frozen hb 2
 have hc3 : w.cell? ⟨g, 3, none⟩ = some (.int .i64 i) := (blk_cell hb 3).trans rfl
 have hf3 := blk_frozen hb 3
 have hc4 : w.cell? ⟨g, 4, none⟩ = some (.int .i64 f) := (blk_cell hb 4).trans rfl
 have hf4 := blk_frozen hb 4
 clear hb
 go_enter Try.func10, Try.ntmps10
 go_wp2
 all_goals go_ret2
 all_goals exact ⟨rfl, by (with_reducible repeat (first | refine blk_drewN ?_ _ | refine blk_drew ?_)); exact HB.out, fun k_ hk => rfl, fun B w0 h hg => by repeat (first | exact h | apply below_drew | refine Below.setCell ?_ hg _)⟩
set_option maxHeartbeats 8000000 in
set_option maxRecDepth 100000 in
theorem impl_HalfSay.ask_full (g : Nat) (i f : Int) (w : World) (hb : w.heap[g]? = some (.cells #[.int .i64 1000000000, .int .i64 0, .int .i64 0, .int .i64 i, .int .i64 f] 24 (0, 0))) :
  Calls Try.prog 10 #[.pointer (some ⟨g, 0, none⟩), .int .i64 1] w fun e w' => e = .returned (.tuple #[.int .i64 0, .int .i64 9]) ∧ w'.heap[g]? = some (.cells #[.int .i64 1000000000, .int .i64 0, .int .i64 0, .int .i64 i, .int .i64 f] 24 (0, 0)) ∧ (∀ k_, k_ ≠ g → w'.heap[k_]? = w.heap[k_]?) ∧ ∀ B w0, Below B w0 w → B ≤ g → Below B w0 w' := by
 have HB := Aside0.mk hb
 have hc0 : w.cell? ⟨g, 0, none⟩ = some (.int .i64 1000000000) := (blk_cell hb 0).trans rfl
 have hf0 := blk_frozen hb 0
 have hc1 : w.cell? ⟨g, 1, none⟩ = some (.int .i64 0) := (blk_cell hb 1).trans rfl
 have hf1 := blk_frozen hb 1
 have hc2 : w.cell? ⟨g, 2, none⟩ = some (.int .i64 0) := (blk_cell hb 2).trans rfl
 have hf2 := blk_frozen hb 2
 have hc3 : w.cell? ⟨g, 3, none⟩ = some (.int .i64 i) := (blk_cell hb 3).trans rfl
 have hf3 := blk_frozen hb 3
 have hc4 : w.cell? ⟨g, 4, none⟩ = some (.int .i64 f) := (blk_cell hb 4).trans rfl
 have hf4 := blk_frozen hb 4
 clear hb
 go_enter Try.func10, Try.ntmps10
 go_wp2
 all_goals go_ret2
 all_goals exact ⟨rfl, by (with_reducible repeat (first | refine blk_drewN ?_ _ | refine blk_drew ?_)); exact HB.out, fun k_ hk => rfl, fun B w0 h hg => by repeat (first | exact h | apply below_drew | refine Below.setCell ?_ hg _)⟩
set_option maxHeartbeats 8000000 in
set_option maxRecDepth 100000 in
theorem impl_HalfSay.ask_ (g : Nat) (n i f : Int) (w : World) (hb : w.heap[g]? = some (.cells #[.int .i64 n, .int .i64 0, .int .i64 0, .int .i64 i, .int .i64 f] 24 (0, 0))) (h1 : (n == 1000000000) = false) (h2 : (wrap64 (n + 1) == 0) = false) :
  Calls Try.prog 10 #[.pointer (some ⟨g, 0, none⟩), .int .i64 1] w fun e w' => e = .returned (.tuple #[.int .i64 (wrap64 (n + 1)), .int .i64 0]) ∧ w'.heap[g]? = some (.cells #[.int .i64 (wrap64 (n + 1)), .int .i64 (wrap64 (n + 1)), .int .i64 0, .int .i64 i, .int .i64 f] 24 (0, 0)) ∧ (∀ k_, k_ ≠ g → w'.heap[k_]? = w.heap[k_]?) ∧ ∀ B w0, Below B w0 w → B ≤ g → Below B w0 w' := by
 have HB := Aside0.mk hb
 have hc0 : w.cell? ⟨g, 0, none⟩ = some (.int .i64 n) := (blk_cell hb 0).trans rfl
 have hf0 := blk_frozen hb 0
 have hc1 : w.cell? ⟨g, 1, none⟩ = some (.int .i64 0) := (blk_cell hb 1).trans rfl
 have hf1 := blk_frozen hb 1
 have hc2 : w.cell? ⟨g, 2, none⟩ = some (.int .i64 0) := (blk_cell hb 2).trans rfl
 have hf2 := blk_frozen hb 2
 have hc3 : w.cell? ⟨g, 3, none⟩ = some (.int .i64 i) := (blk_cell hb 3).trans rfl
 have hf3 := blk_frozen hb 3
 have hc4 : w.cell? ⟨g, 4, none⟩ = some (.int .i64 f) := (blk_cell hb 4).trans rfl
 have hf4 := blk_frozen hb 4
 clear hb
 go_enter Try.func10, Try.ntmps10
 go_wp2
 all_goals go_region
 all_goals go_wp2
 all_goals go_ret2
 all_goals exact ⟨rfl, by (with_reducible repeat (first | refine blk_drewN ?_ _ | refine blk_drew ?_)); exact blk_put (blk_put (HB.out) 0 _ rfl) 1 _ rfl, fun k_ hk => (Below.heap_setCell _ _ _ k_ hk).trans ((Below.heap_setCell _ _ _ k_ hk).trans (rfl)), fun B w0 h hg => by repeat (first | exact h | apply below_drew | refine Below.setCell ?_ hg _)⟩
set_option maxHeartbeats 8000000 in
set_option maxRecDepth 100000 in
theorem impl_HalfSay.leave_ (g : Nat) (n o t i f : Int) (w : World) (hb : w.heap[g]? = some (.cells #[.int .i64 n, .int .i64 o, .int .i64 t, .int .i64 i, .int .i64 f] 24 (0, 0))) (h1 : (wrap64 (o + t) == 0) = false) :
  Calls Try.prog 10 #[.pointer (some ⟨g, 0, none⟩), .int .i64 3] w fun e w' => e = .returned (.tuple #[.int .i64 (wrap64 (o + t)), .int .i64 0]) ∧ w'.heap[g]? = some (.cells #[.int .i64 n, .int .i64 0, .int .i64 0, .int .i64 i, .int .i64 f] 24 (0, 0)) ∧ (∀ k_, k_ ≠ g → w'.heap[k_]? = w.heap[k_]?) ∧ ∀ B w0, Below B w0 w → B ≤ g → Below B w0 w' := by
 have HB := Aside0.mk hb
 have hc0 : w.cell? ⟨g, 0, none⟩ = some (.int .i64 n) := (blk_cell hb 0).trans rfl
 have hf0 := blk_frozen hb 0
 have hc1 : w.cell? ⟨g, 1, none⟩ = some (.int .i64 o) := (blk_cell hb 1).trans rfl
 have hf1 := blk_frozen hb 1
 have hc2 : w.cell? ⟨g, 2, none⟩ = some (.int .i64 t) := (blk_cell hb 2).trans rfl
 have hf2 := blk_frozen hb 2
 have hc3 : w.cell? ⟨g, 3, none⟩ = some (.int .i64 i) := (blk_cell hb 3).trans rfl
 have hf3 := blk_frozen hb 3
 have hc4 : w.cell? ⟨g, 4, none⟩ = some (.int .i64 f) := (blk_cell hb 4).trans rfl
 have hf4 := blk_frozen hb 4
 clear hb
 go_enter Try.func10, Try.ntmps10
 go_wp2
 all_goals go_region
 all_goals go_wp2
 all_goals go_ret2
 all_goals exact ⟨rfl, by (with_reducible repeat (first | refine blk_drewN ?_ _ | refine blk_drew ?_)); exact blk_put (blk_put (HB.out) 1 _ rfl) 2 _ rfl, fun k_ hk => (Below.heap_setCell _ _ _ k_ hk).trans ((Below.heap_setCell _ _ _ k_ hk).trans (rfl)), fun B w0 h hg => by repeat (first | exact h | apply below_drew | refine Below.setCell ?_ hg _)⟩
set_option maxHeartbeats 8000000 in
set_option maxRecDepth 100000 in
theorem impl_HalfSay.leave_no (g : Nat) (n o t i f : Int) (w : World) (hb : w.heap[g]? = some (.cells #[.int .i64 n, .int .i64 o, .int .i64 t, .int .i64 i, .int .i64 f] 24 (0, 0))) (h1 : (wrap64 (o + t) == 0) = true) :
  Calls Try.prog 10 #[.pointer (some ⟨g, 0, none⟩), .int .i64 3] w fun e w' => e = .returned (.tuple #[.int .i64 (wrap64 (o + t)), .int .i64 10]) ∧ w'.heap[g]? = some (.cells #[.int .i64 n, .int .i64 0, .int .i64 0, .int .i64 i, .int .i64 f] 24 (0, 0)) ∧ (∀ k_, k_ ≠ g → w'.heap[k_]? = w.heap[k_]?) ∧ ∀ B w0, Below B w0 w → B ≤ g → Below B w0 w' := by
 have HB := Aside0.mk hb
 have hc0 : w.cell? ⟨g, 0, none⟩ = some (.int .i64 n) := (blk_cell hb 0).trans rfl
 have hf0 := blk_frozen hb 0
 have hc1 : w.cell? ⟨g, 1, none⟩ = some (.int .i64 o) := (blk_cell hb 1).trans rfl
 have hf1 := blk_frozen hb 1
 have hc2 : w.cell? ⟨g, 2, none⟩ = some (.int .i64 t) := (blk_cell hb 2).trans rfl
 have hf2 := blk_frozen hb 2
 have hc3 : w.cell? ⟨g, 3, none⟩ = some (.int .i64 i) := (blk_cell hb 3).trans rfl
 have hf3 := blk_frozen hb 3
 have hc4 : w.cell? ⟨g, 4, none⟩ = some (.int .i64 f) := (blk_cell hb 4).trans rfl
 have hf4 := blk_frozen hb 4
 clear hb
 go_enter Try.func10, Try.ntmps10
 go_wp2
 all_goals go_region
 all_goals go_wp2
 all_goals go_ret2
 all_goals exact ⟨rfl, by (with_reducible repeat (first | refine blk_drewN ?_ _ | refine blk_drew ?_)); exact blk_put (blk_put (HB.out) 1 _ rfl) 2 _ rfl, fun k_ hk => (Below.heap_setCell _ _ _ k_ hk).trans ((Below.heap_setCell _ _ _ k_ hk).trans (rfl)), fun B w0 h hg => by repeat (first | exact h | apply below_drew | refine Below.setCell ?_ hg _)⟩
set_option maxHeartbeats 8000000 in
set_option maxRecDepth 100000 in
theorem impl_HalfSay.grant_ (g : Nat) (n o t i f : Int) (w : World) (hb : w.heap[g]? = some (.cells #[.int .i64 n, .int .i64 o, .int .i64 t, .int .i64 i, .int .i64 f] 24 (0, 0))) (h1 : (i == 0) = false) :
  Calls Try.prog 10 #[.pointer (some ⟨g, 0, none⟩), .int .i64 2] w fun e w' => e = .returned (.tuple #[.int .i64 i, .int .i64 0]) ∧ w'.heap[g]? = some (.cells #[.int .i64 n, .int .i64 o, .int .i64 t, .int .i64 0, .int .i64 i] 24 (0, 0)) ∧ (∀ k_, k_ ≠ g → w'.heap[k_]? = w.heap[k_]?) ∧ ∀ B w0, Below B w0 w → B ≤ g → Below B w0 w' := by
 have HB := Aside0.mk hb
 have hc0 : w.cell? ⟨g, 0, none⟩ = some (.int .i64 n) := (blk_cell hb 0).trans rfl
 have hf0 := blk_frozen hb 0
 have hc1 : w.cell? ⟨g, 1, none⟩ = some (.int .i64 o) := (blk_cell hb 1).trans rfl
 have hf1 := blk_frozen hb 1
 have hc2 : w.cell? ⟨g, 2, none⟩ = some (.int .i64 t) := (blk_cell hb 2).trans rfl
 have hf2 := blk_frozen hb 2
 have hc3 : w.cell? ⟨g, 3, none⟩ = some (.int .i64 i) := (blk_cell hb 3).trans rfl
 have hf3 := blk_frozen hb 3
 have hc4 : w.cell? ⟨g, 4, none⟩ = some (.int .i64 f) := (blk_cell hb 4).trans rfl
 have hf4 := blk_frozen hb 4
 clear hb
 go_enter Try.func10, Try.ntmps10
 go_wp2
 all_goals go_region
 all_goals go_wp2
 all_goals go_ret2
 all_goals exact ⟨rfl, by (with_reducible repeat (first | refine blk_drewN ?_ _ | refine blk_drew ?_)); exact blk_put (blk_put (HB.out) 4 _ rfl) 3 _ rfl, fun k_ hk => (Below.heap_setCell _ _ _ k_ hk).trans ((Below.heap_setCell _ _ _ k_ hk).trans (rfl)), fun B w0 h hg => by repeat (first | exact h | apply below_drew | refine Below.setCell ?_ hg _)⟩
set_option maxHeartbeats 8000000 in
set_option maxRecDepth 100000 in
theorem impl_HalfSay.grant_no (g : Nat) (n o t i f : Int) (w : World) (hb : w.heap[g]? = some (.cells #[.int .i64 n, .int .i64 o, .int .i64 t, .int .i64 i, .int .i64 f] 24 (0, 0))) (h1 : (i == 0) = true) :
  Calls Try.prog 10 #[.pointer (some ⟨g, 0, none⟩), .int .i64 2] w fun e w' => e = .returned (.tuple #[.int .i64 i, .int .i64 10]) ∧ w'.heap[g]? = some (.cells #[.int .i64 n, .int .i64 o, .int .i64 t, .int .i64 0, .int .i64 i] 24 (0, 0)) ∧ (∀ k_, k_ ≠ g → w'.heap[k_]? = w.heap[k_]?) ∧ ∀ B w0, Below B w0 w → B ≤ g → Below B w0 w' := by
 have HB := Aside0.mk hb
 have hc0 : w.cell? ⟨g, 0, none⟩ = some (.int .i64 n) := (blk_cell hb 0).trans rfl
 have hf0 := blk_frozen hb 0
 have hc1 : w.cell? ⟨g, 1, none⟩ = some (.int .i64 o) := (blk_cell hb 1).trans rfl
 have hf1 := blk_frozen hb 1
 have hc2 : w.cell? ⟨g, 2, none⟩ = some (.int .i64 t) := (blk_cell hb 2).trans rfl
 have hf2 := blk_frozen hb 2
 have hc3 : w.cell? ⟨g, 3, none⟩ = some (.int .i64 i) := (blk_cell hb 3).trans rfl
 have hf3 := blk_frozen hb 3
 have hc4 : w.cell? ⟨g, 4, none⟩ = some (.int .i64 f) := (blk_cell hb 4).trans rfl
 have hf4 := blk_frozen hb 4
 clear hb
 go_enter Try.func10, Try.ntmps10
 go_wp2
 all_goals go_region
 all_goals go_wp2
 all_goals go_ret2
 all_goals exact ⟨rfl, by (with_reducible repeat (first | refine blk_drewN ?_ _ | refine blk_drew ?_)); exact blk_put (blk_put (HB.out) 4 _ rfl) 3 _ rfl, fun k_ hk => (Below.heap_setCell _ _ _ k_ hk).trans ((Below.heap_setCell _ _ _ k_ hk).trans (rfl)), fun B w0 h hg => by repeat (first | exact h | apply below_drew | refine Below.setCell ?_ hg _)⟩
set_option maxHeartbeats 8000000 in
set_option maxRecDepth 100000 in
theorem impl_HalfSay.deny_ (g : Nat) (n o t i f : Int) (w : World) (hb : w.heap[g]? = some (.cells #[.int .i64 n, .int .i64 o, .int .i64 t, .int .i64 i, .int .i64 f] 24 (0, 0))) (h1 : (wrap64 (i + f) == 0) = false) :
  Calls Try.prog 10 #[.pointer (some ⟨g, 0, none⟩), .int .i64 4] w fun e w' => e = .returned (.tuple #[.int .i64 (wrap64 (i + f)), .int .i64 0]) ∧ w'.heap[g]? = some (.cells #[.int .i64 n, .int .i64 o, .int .i64 t, .int .i64 0, .int .i64 0] 24 (0, 0)) ∧ (∀ k_, k_ ≠ g → w'.heap[k_]? = w.heap[k_]?) ∧ ∀ B w0, Below B w0 w → B ≤ g → Below B w0 w' := by
 have HB := Aside0.mk hb
 have hc0 : w.cell? ⟨g, 0, none⟩ = some (.int .i64 n) := (blk_cell hb 0).trans rfl
 have hf0 := blk_frozen hb 0
 have hc1 : w.cell? ⟨g, 1, none⟩ = some (.int .i64 o) := (blk_cell hb 1).trans rfl
 have hf1 := blk_frozen hb 1
 have hc2 : w.cell? ⟨g, 2, none⟩ = some (.int .i64 t) := (blk_cell hb 2).trans rfl
 have hf2 := blk_frozen hb 2
 have hc3 : w.cell? ⟨g, 3, none⟩ = some (.int .i64 i) := (blk_cell hb 3).trans rfl
 have hf3 := blk_frozen hb 3
 have hc4 : w.cell? ⟨g, 4, none⟩ = some (.int .i64 f) := (blk_cell hb 4).trans rfl
 have hf4 := blk_frozen hb 4
 clear hb
 go_enter Try.func10, Try.ntmps10
 go_wp2
 all_goals go_region
 all_goals go_wp2
 all_goals go_ret2
 all_goals exact ⟨rfl, by (with_reducible repeat (first | refine blk_drewN ?_ _ | refine blk_drew ?_)); exact blk_put (blk_put (HB.out) 3 _ rfl) 4 _ rfl, fun k_ hk => (Below.heap_setCell _ _ _ k_ hk).trans ((Below.heap_setCell _ _ _ k_ hk).trans (rfl)), fun B w0 h hg => by repeat (first | exact h | apply below_drew | refine Below.setCell ?_ hg _)⟩
set_option maxHeartbeats 8000000 in
set_option maxRecDepth 100000 in
theorem impl_HalfSay.deny_no (g : Nat) (n o t i f : Int) (w : World) (hb : w.heap[g]? = some (.cells #[.int .i64 n, .int .i64 o, .int .i64 t, .int .i64 i, .int .i64 f] 24 (0, 0))) (h1 : (wrap64 (i + f) == 0) = true) :
  Calls Try.prog 10 #[.pointer (some ⟨g, 0, none⟩), .int .i64 4] w fun e w' => e = .returned (.tuple #[.int .i64 (wrap64 (i + f)), .int .i64 10]) ∧ w'.heap[g]? = some (.cells #[.int .i64 n, .int .i64 o, .int .i64 t, .int .i64 0, .int .i64 0] 24 (0, 0)) ∧ (∀ k_, k_ ≠ g → w'.heap[k_]? = w.heap[k_]?) ∧ ∀ B w0, Below B w0 w → B ≤ g → Below B w0 w' := by
 have HB := Aside0.mk hb
 have hc0 : w.cell? ⟨g, 0, none⟩ = some (.int .i64 n) := (blk_cell hb 0).trans rfl
 have hf0 := blk_frozen hb 0
 have hc1 : w.cell? ⟨g, 1, none⟩ = some (.int .i64 o) := (blk_cell hb 1).trans rfl
 have hf1 := blk_frozen hb 1
 have hc2 : w.cell? ⟨g, 2, none⟩ = some (.int .i64 t) := (blk_cell hb 2).trans rfl
 have hf2 := blk_frozen hb 2
 have hc3 : w.cell? ⟨g, 3, none⟩ = some (.int .i64 i) := (blk_cell hb 3).trans rfl
 have hf3 := blk_frozen hb 3
 have hc4 : w.cell? ⟨g, 4, none⟩ = some (.int .i64 f) := (blk_cell hb 4).trans rfl
 have hf4 := blk_frozen hb 4
 clear hb
 go_enter Try.func10, Try.ntmps10
 go_wp2
 all_goals go_region
 all_goals go_wp2
 all_goals go_ret2
 all_goals exact ⟨rfl, by (with_reducible repeat (first | refine blk_drewN ?_ _ | refine blk_drew ?_)); exact blk_put (blk_put (HB.out) 3 _ rfl) 4 _ rfl, fun k_ hk => (Below.heap_setCell _ _ _ k_ hk).trans ((Below.heap_setCell _ _ _ k_ hk).trans (rfl)), fun B w0 h hg => by repeat (first | exact h | apply below_drew | refine Below.setCell ?_ hg _)⟩
set_option maxHeartbeats 8000000 in
set_option maxRecDepth 100000 in
theorem impl_HalfSay.ill0 (n o t i f kind : Int) (w : World) (hR0 : impl_HalfRight.f n o t i f = some false) :
  Calls Try.prog 5 #[.agg #[.int .i64 n, .int .i64 o, .int .i64 t, .int .i64 i, .int .i64 f], .int .i64 kind] w fun e w' => ∃ v5_ : Value, e = .returned (.agg #[.int .i64 0, .int .i64 0, .int .i64 0, .int .i64 0, .int .i64 0, v5_, .int .i64 1]) ∧ Kd.R k32 32 w' w.heap.size (fun _ => True) v5_ [] ∧ Below w.heap.size w w' := by
 have hR := Aside0.mk hR0
 clear hR0
 have hu24 := Try.underlying24
 have hu28 := Try.underlying28
 go_enter Try.func5, Try.ntmps5
 go_wp2_with (first | ((with_reducible refine gate_dst (N := 2) rfl ?_); refine box_event ?hg (N := 2) ?hd (cs := #[.int .i64 n, .int .i64 o, .int .i64 t, .int .i64 i, .int .i64 f]) (t := 24) ?hr ?_; (case hd => rfl); (case hg => rfl); (case hr => first | (go_simp; done) | (go_simp; rfl)); intro gb hg w3 hbox hb; have BK := Aside0.mk hbox; have HB := Aside0.mk hb; have GE := Aside0.mk (Nat.le_of_eq hg.symm); have hcz0 := impl_HalfSay.bc BK.out 0; have hcz1 := impl_HalfSay.bc BK.out 1; have hcz2 := impl_HalfSay.bc BK.out 2; have hcz3 := impl_HalfSay.bc BK.out 3; have hcz4 := impl_HalfSay.bc BK.out 4; have hfz0 := blk_frozen BK.out 0; have hfz1 := blk_frozen BK.out 1; have hfz2 := blk_frozen BK.out 2; have hfz3 := blk_frozen BK.out 3; have hfz4 := blk_frozen BK.out 4; clear hbox hb hg) | ((with_reducible refine gate_dst (N := 4) rfl ?_); refine box_event ?hg (N := 4) ?hd (cs := #[.int .i64 0, .int .i64 0, .int .i64 0, .int .i64 0, .int .i64 0, .slice none 0 0, .int .i64 0]) (t := 28) ?hr ?_; (case hd => rfl); (case hg => rfl); (case hr => first | (go_simp; done) | (go_simp; rfl)); intro gr hg w4 hbox hb; have RK := Aside0.mk hbox; have BK4 := Aside0.mk (blk_below (g := gb) (o := .cells #[.int .i64 n, .int .i64 o, .int .i64 t, .int .i64 i, .int .i64 f] 24 (0, 0)) BK.out hb); have HB4 := Aside0.mk (below_step HB.out hb); have NE := Aside0.mk (show gb ≠ gr by rw [hg]; exact Nat.ne_of_lt (blk_lt (g := gb) (o := .cells #[.int .i64 n, .int .i64 o, .int .i64 t, .int .i64 i, .int .i64 f] 24 (0, 0)) BK.out)); have GR := Aside0.mk (show w.heap.size ≤ gr by rw [hg]; exact below_size HB.out); have hcb0 := impl_HalfSay.bc BK4.out 0; have hfb0 := blk_frozen BK4.out 0; have hcb1 := impl_HalfSay.bc BK4.out 1; have hfb1 := blk_frozen BK4.out 1; have hcb2 := impl_HalfSay.bc BK4.out 2; have hfb2 := blk_frozen BK4.out 2; have hcb3 := impl_HalfSay.bc BK4.out 3; have hfb3 := blk_frozen BK4.out 3; have hcb4 := impl_HalfSay.bc BK4.out 4; have hfb4 := blk_frozen BK4.out 4; clear hbox hb hg) | ((with_reducible refine gate_callee (f := 8) rfl ?_); refine goesL_ (some 8) rfl rfl Try.func8 (by kernel_rfl) rfl #[.agg #[.int .i64 n, .int .i64 o, .int .i64 t, .int .i64 i, .int .i64 f]] rfl zb0_1 ?_; (with_reducible refine (impl_HalfRight.calls n o t i f false _ hR.out).mono ?_); rintro e w5 ⟨rfl, hb⟩; refine ⟨_, rfl, ?_⟩; have BK5 := Aside0.mk (blk_below (g := gb) (o := .cells #[.int .i64 n, .int .i64 o, .int .i64 t, .int .i64 i, .int .i64 f] 24 (0, 0)) BK4.out hb); have RK5 := Aside0.mk (blk_below (g := gr) (o := .cells #[.int .i64 0, .int .i64 0, .int .i64 0, .int .i64 0, .int .i64 0, .slice none 0 0, .int .i64 0] 28 (0, 0)) RK.out hb); have HB5 := Aside0.mk (below_step HB4.out hb); have hcr0 := impl_HalfSay.bc RK5.out 0; have hfr0 := blk_frozen RK5.out 0; have hcr1 := impl_HalfSay.bc RK5.out 1; have hfr1 := blk_frozen RK5.out 1; have hcr2 := impl_HalfSay.bc RK5.out 2; have hfr2 := blk_frozen RK5.out 2; have hcr3 := impl_HalfSay.bc RK5.out 3; have hfr3 := blk_frozen RK5.out 3; have hcr4 := impl_HalfSay.bc RK5.out 4; have hfr4 := blk_frozen RK5.out 4; have hcr5 := impl_HalfSay.bc RK5.out 5; have hfr5 := blk_frozen RK5.out 5; have hcr6 := impl_HalfSay.bc RK5.out 6; have hfr6 := blk_frozen RK5.out 6; have hcs0 := impl_HalfSay.bc BK5.out 0; have hfs0 := blk_frozen BK5.out 0; have hcs1 := impl_HalfSay.bc BK5.out 1; have hfs1 := blk_frozen BK5.out 1; have hcs2 := impl_HalfSay.bc BK5.out 2; have hfs2 := blk_frozen BK5.out 2; have hcs3 := impl_HalfSay.bc BK5.out 3; have hfs3 := blk_frozen BK5.out 3; have hcs4 := impl_HalfSay.bc BK5.out 4; have hfs4 := blk_frozen BK5.out 4; clear hb))
 refine bodyPost_ret (results_cell_row rfl _ _ gr 28 #[.int .i64 0, .int .i64 0, .int .i64 0, .int .i64 0, .int .i64 0, .slice none 0 0, .int .i64 1] (0, 0) _ rfl (by (with_reducible repeat (first | refine blk_drewN ?_ _ | refine blk_drew ?_ | refine blk_alloc ?_ _)); refine blk_put (cs := #[.int .i64 0, .int .i64 0, .int .i64 0, .int .i64 0, .int .i64 0, .slice none 0 0, .int .i64 0]) ?_ 6 _ rfl; (with_reducible repeat (first | refine blk_drewN ?_ _ | refine blk_drew ?_ | refine blk_alloc ?_ _)); refine blk_put (cs := #[.int .i64 0, .int .i64 0, .int .i64 0, .int .i64 0, .int .i64 0, .slice none 0 0, .int .i64 0]) ?_ 5 _ rfl; (with_reducible repeat (first | refine blk_drewN ?_ _ | refine blk_drew ?_ | refine blk_alloc ?_ _)); refine blk_put (cs := #[.int .i64 0, .int .i64 0, .int .i64 0, .int .i64 0, .int .i64 0, .slice none 0 0, .int .i64 0]) ?_ 4 _ rfl; (with_reducible repeat (first | refine blk_drewN ?_ _ | refine blk_drew ?_ | refine blk_alloc ?_ _)); refine blk_put (cs := #[.int .i64 0, .int .i64 0, .int .i64 0, .int .i64 0, .int .i64 0, .slice none 0 0, .int .i64 0]) ?_ 3 _ rfl; (with_reducible repeat (first | refine blk_drewN ?_ _ | refine blk_drew ?_ | refine blk_alloc ?_ _)); refine blk_put (cs := #[.int .i64 0, .int .i64 0, .int .i64 0, .int .i64 0, .int .i64 0, .slice none 0 0, .int .i64 0]) ?_ 2 _ rfl; (with_reducible repeat (first | refine blk_drewN ?_ _ | refine blk_drew ?_ | refine blk_alloc ?_ _)); refine blk_put (cs := #[.int .i64 0, .int .i64 0, .int .i64 0, .int .i64 0, .int .i64 0, .slice none 0 0, .int .i64 0]) ?_ 1 _ rfl; (with_reducible repeat (first | refine blk_drewN ?_ _ | refine blk_drew ?_ | refine blk_alloc ?_ _)); refine blk_put (cs := #[.int .i64 0, .int .i64 0, .int .i64 0, .int .i64 0, .int .i64 0, .slice none 0 0, .int .i64 0]) ?_ 0 _ rfl; (with_reducible repeat (first | refine blk_drewN ?_ _ | refine blk_drew ?_ | refine blk_alloc ?_ _)); exact RK5.out) Try.underlying28 rfl (by kernel_rfl)) rfl ?_
 exact ⟨_, rfl, Kd.R_nil _ _ _ _ _, by repeat (first | (with_reducible first | exact HB5.out | apply below_alloc | apply pw_below_drewN | apply below_drew1 | refine below_set ?_ GR.out) | exact HB5.out)⟩
set_option maxHeartbeats 8000000 in
set_option maxRecDepth 100000 in
theorem impl_HalfSay.ill1 (n o t i f kind : Int) (w : World) (hR0 : impl_HalfRight.f n o t i f = some true) (hK0 : impl_isSubKind.f kind = some false) :
  Calls Try.prog 5 #[.agg #[.int .i64 n, .int .i64 o, .int .i64 t, .int .i64 i, .int .i64 f], .int .i64 kind] w fun e w' => ∃ v5_ : Value, e = .returned (.agg #[.int .i64 0, .int .i64 0, .int .i64 0, .int .i64 0, .int .i64 0, v5_, .int .i64 1]) ∧ Kd.R k32 32 w' w.heap.size (fun _ => True) v5_ [] ∧ Below w.heap.size w w' := by
 have hR := Aside0.mk hR0
 have hK := Aside0.mk hK0
 clear hR0 hK0
 have hu24 := Try.underlying24
 have hu28 := Try.underlying28
 go_enter Try.func5, Try.ntmps5
 go_wp2_with (first | ((with_reducible refine gate_dst (N := 2) rfl ?_); refine box_event ?hg (N := 2) ?hd (cs := #[.int .i64 n, .int .i64 o, .int .i64 t, .int .i64 i, .int .i64 f]) (t := 24) ?hr ?_; (case hd => rfl); (case hg => rfl); (case hr => first | (go_simp; done) | (go_simp; rfl)); intro gb hg w3 hbox hb; have BK := Aside0.mk hbox; have HB := Aside0.mk hb; have GE := Aside0.mk (Nat.le_of_eq hg.symm); have hcz0 := impl_HalfSay.bc BK.out 0; have hcz1 := impl_HalfSay.bc BK.out 1; have hcz2 := impl_HalfSay.bc BK.out 2; have hcz3 := impl_HalfSay.bc BK.out 3; have hcz4 := impl_HalfSay.bc BK.out 4; have hfz0 := blk_frozen BK.out 0; have hfz1 := blk_frozen BK.out 1; have hfz2 := blk_frozen BK.out 2; have hfz3 := blk_frozen BK.out 3; have hfz4 := blk_frozen BK.out 4; clear hbox hb hg) | ((with_reducible refine gate_dst (N := 4) rfl ?_); refine box_event ?hg (N := 4) ?hd (cs := #[.int .i64 0, .int .i64 0, .int .i64 0, .int .i64 0, .int .i64 0, .slice none 0 0, .int .i64 0]) (t := 28) ?hr ?_; (case hd => rfl); (case hg => rfl); (case hr => first | (go_simp; done) | (go_simp; rfl)); intro gr hg w4 hbox hb; have RK := Aside0.mk hbox; have BK4 := Aside0.mk (blk_below (g := gb) (o := .cells #[.int .i64 n, .int .i64 o, .int .i64 t, .int .i64 i, .int .i64 f] 24 (0, 0)) BK.out hb); have HB4 := Aside0.mk (below_step HB.out hb); have NE := Aside0.mk (show gb ≠ gr by rw [hg]; exact Nat.ne_of_lt (blk_lt (g := gb) (o := .cells #[.int .i64 n, .int .i64 o, .int .i64 t, .int .i64 i, .int .i64 f] 24 (0, 0)) BK.out)); have GR := Aside0.mk (show w.heap.size ≤ gr by rw [hg]; exact below_size HB.out); have hcb0 := impl_HalfSay.bc BK4.out 0; have hfb0 := blk_frozen BK4.out 0; have hcb1 := impl_HalfSay.bc BK4.out 1; have hfb1 := blk_frozen BK4.out 1; have hcb2 := impl_HalfSay.bc BK4.out 2; have hfb2 := blk_frozen BK4.out 2; have hcb3 := impl_HalfSay.bc BK4.out 3; have hfb3 := blk_frozen BK4.out 3; have hcb4 := impl_HalfSay.bc BK4.out 4; have hfb4 := blk_frozen BK4.out 4; clear hbox hb hg) | ((with_reducible refine gate_callee (f := 8) rfl ?_); refine goesL_ (some 8) rfl rfl Try.func8 (by kernel_rfl) rfl #[.agg #[.int .i64 n, .int .i64 o, .int .i64 t, .int .i64 i, .int .i64 f]] rfl zb0_1 ?_; (with_reducible refine (impl_HalfRight.calls n o t i f true _ hR.out).mono ?_); rintro e w5 ⟨rfl, hb⟩; refine ⟨_, rfl, ?_⟩; have BK5 := Aside0.mk (blk_below (g := gb) (o := .cells #[.int .i64 n, .int .i64 o, .int .i64 t, .int .i64 i, .int .i64 f] 24 (0, 0)) BK4.out hb); have RK5 := Aside0.mk (blk_below (g := gr) (o := .cells #[.int .i64 0, .int .i64 0, .int .i64 0, .int .i64 0, .int .i64 0, .slice none 0 0, .int .i64 0] 28 (0, 0)) RK.out hb); have HB5 := Aside0.mk (below_step HB4.out hb); have hcr0 := impl_HalfSay.bc RK5.out 0; have hfr0 := blk_frozen RK5.out 0; have hcr1 := impl_HalfSay.bc RK5.out 1; have hfr1 := blk_frozen RK5.out 1; have hcr2 := impl_HalfSay.bc RK5.out 2; have hfr2 := blk_frozen RK5.out 2; have hcr3 := impl_HalfSay.bc RK5.out 3; have hfr3 := blk_frozen RK5.out 3; have hcr4 := impl_HalfSay.bc RK5.out 4; have hfr4 := blk_frozen RK5.out 4; have hcr5 := impl_HalfSay.bc RK5.out 5; have hfr5 := blk_frozen RK5.out 5; have hcr6 := impl_HalfSay.bc RK5.out 6; have hfr6 := blk_frozen RK5.out 6; have hcs0 := impl_HalfSay.bc BK5.out 0; have hfs0 := blk_frozen BK5.out 0; have hcs1 := impl_HalfSay.bc BK5.out 1; have hfs1 := blk_frozen BK5.out 1; have hcs2 := impl_HalfSay.bc BK5.out 2; have hfs2 := blk_frozen BK5.out 2; have hcs3 := impl_HalfSay.bc BK5.out 3; have hfs3 := blk_frozen BK5.out 3; have hcs4 := impl_HalfSay.bc BK5.out 4; have hfs4 := blk_frozen BK5.out 4; clear hb) | (go_at_call 9; (with_reducible refine (impl_isSubKind.calls kind false _ hK.out).mono ?_); rintro e w6 ⟨rfl, ⟨nd, rfl⟩⟩))
 refine bodyPost_ret (results_cell_row rfl _ _ gr 28 #[.int .i64 0, .int .i64 0, .int .i64 0, .int .i64 0, .int .i64 0, .slice none 0 0, .int .i64 1] (0, 0) _ rfl (by (with_reducible repeat (first | refine blk_drewN ?_ _ | refine blk_drew ?_ | refine blk_alloc ?_ _)); refine blk_put (cs := #[.int .i64 0, .int .i64 0, .int .i64 0, .int .i64 0, .int .i64 0, .slice none 0 0, .int .i64 0]) ?_ 6 _ rfl; (with_reducible repeat (first | refine blk_drewN ?_ _ | refine blk_drew ?_ | refine blk_alloc ?_ _)); refine blk_put (cs := #[.int .i64 0, .int .i64 0, .int .i64 0, .int .i64 0, .int .i64 0, .slice none 0 0, .int .i64 0]) ?_ 5 _ rfl; (with_reducible repeat (first | refine blk_drewN ?_ _ | refine blk_drew ?_ | refine blk_alloc ?_ _)); refine blk_put (cs := #[.int .i64 0, .int .i64 0, .int .i64 0, .int .i64 0, .int .i64 0, .slice none 0 0, .int .i64 0]) ?_ 4 _ rfl; (with_reducible repeat (first | refine blk_drewN ?_ _ | refine blk_drew ?_ | refine blk_alloc ?_ _)); refine blk_put (cs := #[.int .i64 0, .int .i64 0, .int .i64 0, .int .i64 0, .int .i64 0, .slice none 0 0, .int .i64 0]) ?_ 3 _ rfl; (with_reducible repeat (first | refine blk_drewN ?_ _ | refine blk_drew ?_ | refine blk_alloc ?_ _)); refine blk_put (cs := #[.int .i64 0, .int .i64 0, .int .i64 0, .int .i64 0, .int .i64 0, .slice none 0 0, .int .i64 0]) ?_ 2 _ rfl; (with_reducible repeat (first | refine blk_drewN ?_ _ | refine blk_drew ?_ | refine blk_alloc ?_ _)); refine blk_put (cs := #[.int .i64 0, .int .i64 0, .int .i64 0, .int .i64 0, .int .i64 0, .slice none 0 0, .int .i64 0]) ?_ 1 _ rfl; (with_reducible repeat (first | refine blk_drewN ?_ _ | refine blk_drew ?_ | refine blk_alloc ?_ _)); refine blk_put (cs := #[.int .i64 0, .int .i64 0, .int .i64 0, .int .i64 0, .int .i64 0, .slice none 0 0, .int .i64 0]) ?_ 0 _ rfl; (with_reducible repeat (first | refine blk_drewN ?_ _ | refine blk_drew ?_ | refine blk_alloc ?_ _)); exact RK5.out) Try.underlying28 rfl (by kernel_rfl)) rfl ?_
 exact ⟨_, rfl, Kd.R_nil _ _ _ _ _, by repeat (first | (with_reducible first | exact HB5.out | apply below_alloc | apply pw_below_drewN | apply below_drew1 | refine below_set ?_ GR.out) | exact HB5.out)⟩
set_option maxHeartbeats 8000000 in
set_option maxRecDepth 100000 in
theorem impl_HalfSay.no (n o t i f kind m c n' o' t' i' f' : Int) (w : World) (hR0 : impl_HalfRight.f n o t i f = some true) (hK0 : impl_isSubKind.f kind = some true) (hc : (c != 0) = true) (act : ∀ (g : Nat) (W : World), W.heap[g]? = some (.cells #[.int .i64 n, .int .i64 o, .int .i64 t, .int .i64 i, .int .i64 f] 24 (0, 0)) → Calls Try.prog 10 #[.pointer (some ⟨g, 0, none⟩), .int .i64 kind] W fun e w' => e = .returned (.tuple #[.int .i64 m, .int .i64 c]) ∧ w'.heap[g]? = some (.cells #[.int .i64 n', .int .i64 o', .int .i64 t', .int .i64 i', .int .i64 f'] 24 (0, 0)) ∧ (∀ k_, k_ ≠ g → w'.heap[k_]? = W.heap[k_]?) ∧ ∀ B w0, Below B w0 W → B ≤ g → Below B w0 w') :
  Calls Try.prog 5 #[.agg #[.int .i64 n, .int .i64 o, .int .i64 t, .int .i64 i, .int .i64 f], .int .i64 kind] w fun e w' => ∃ v5_ : Value, e = .returned (.agg #[.int .i64 0, .int .i64 0, .int .i64 0, .int .i64 0, .int .i64 0, v5_, .int .i64 c]) ∧ Kd.R k32 32 w' w.heap.size (fun _ => True) v5_ [] ∧ Below w.heap.size w w' := by
 have hR := Aside0.mk hR0
 have hK := Aside0.mk hK0
 have ACT_ := Aside0.mk act
 clear hR0 hK0 act
 have hu24 := Try.underlying24
 have hu28 := Try.underlying28
 go_enter Try.func5, Try.ntmps5
 go_wp2_with (first | ((with_reducible refine gate_dst (N := 2) rfl ?_); refine box_event ?hg (N := 2) ?hd (cs := #[.int .i64 n, .int .i64 o, .int .i64 t, .int .i64 i, .int .i64 f]) (t := 24) ?hr ?_; (case hd => rfl); (case hg => rfl); (case hr => first | (go_simp; done) | (go_simp; rfl)); intro gb hg w3 hbox hb; have BK := Aside0.mk hbox; have HB := Aside0.mk hb; have GE := Aside0.mk (Nat.le_of_eq hg.symm); have hcz0 := impl_HalfSay.bc BK.out 0; have hcz1 := impl_HalfSay.bc BK.out 1; have hcz2 := impl_HalfSay.bc BK.out 2; have hcz3 := impl_HalfSay.bc BK.out 3; have hcz4 := impl_HalfSay.bc BK.out 4; have hfz0 := blk_frozen BK.out 0; have hfz1 := blk_frozen BK.out 1; have hfz2 := blk_frozen BK.out 2; have hfz3 := blk_frozen BK.out 3; have hfz4 := blk_frozen BK.out 4; clear hbox hb hg) | ((with_reducible refine gate_dst (N := 4) rfl ?_); refine box_event ?hg (N := 4) ?hd (cs := #[.int .i64 0, .int .i64 0, .int .i64 0, .int .i64 0, .int .i64 0, .slice none 0 0, .int .i64 0]) (t := 28) ?hr ?_; (case hd => rfl); (case hg => rfl); (case hr => first | (go_simp; done) | (go_simp; rfl)); intro gr hg w4 hbox hb; have RK := Aside0.mk hbox; have BK4 := Aside0.mk (blk_below (g := gb) (o := .cells #[.int .i64 n, .int .i64 o, .int .i64 t, .int .i64 i, .int .i64 f] 24 (0, 0)) BK.out hb); have HB4 := Aside0.mk (below_step HB.out hb); have NE := Aside0.mk (show gb ≠ gr by rw [hg]; exact Nat.ne_of_lt (blk_lt (g := gb) (o := .cells #[.int .i64 n, .int .i64 o, .int .i64 t, .int .i64 i, .int .i64 f] 24 (0, 0)) BK.out)); have GR := Aside0.mk (show w.heap.size ≤ gr by rw [hg]; exact below_size HB.out); have hcb0 := impl_HalfSay.bc BK4.out 0; have hfb0 := blk_frozen BK4.out 0; have hcb1 := impl_HalfSay.bc BK4.out 1; have hfb1 := blk_frozen BK4.out 1; have hcb2 := impl_HalfSay.bc BK4.out 2; have hfb2 := blk_frozen BK4.out 2; have hcb3 := impl_HalfSay.bc BK4.out 3; have hfb3 := blk_frozen BK4.out 3; have hcb4 := impl_HalfSay.bc BK4.out 4; have hfb4 := blk_frozen BK4.out 4; clear hbox hb hg) | ((with_reducible refine gate_callee (f := 8) rfl ?_); refine goesL_ (some 8) rfl rfl Try.func8 (by kernel_rfl) rfl #[.agg #[.int .i64 n, .int .i64 o, .int .i64 t, .int .i64 i, .int .i64 f]] rfl zb0_1 ?_; (with_reducible refine (impl_HalfRight.calls n o t i f true _ hR.out).mono ?_); rintro e w5 ⟨rfl, hb⟩; refine ⟨_, rfl, ?_⟩; have BK5 := Aside0.mk (blk_below (g := gb) (o := .cells #[.int .i64 n, .int .i64 o, .int .i64 t, .int .i64 i, .int .i64 f] 24 (0, 0)) BK4.out hb); have RK5 := Aside0.mk (blk_below (g := gr) (o := .cells #[.int .i64 0, .int .i64 0, .int .i64 0, .int .i64 0, .int .i64 0, .slice none 0 0, .int .i64 0] 28 (0, 0)) RK.out hb); have HB5 := Aside0.mk (below_step HB4.out hb); have hcr0 := impl_HalfSay.bc RK5.out 0; have hfr0 := blk_frozen RK5.out 0; have hcr1 := impl_HalfSay.bc RK5.out 1; have hfr1 := blk_frozen RK5.out 1; have hcr2 := impl_HalfSay.bc RK5.out 2; have hfr2 := blk_frozen RK5.out 2; have hcr3 := impl_HalfSay.bc RK5.out 3; have hfr3 := blk_frozen RK5.out 3; have hcr4 := impl_HalfSay.bc RK5.out 4; have hfr4 := blk_frozen RK5.out 4; have hcr5 := impl_HalfSay.bc RK5.out 5; have hfr5 := blk_frozen RK5.out 5; have hcr6 := impl_HalfSay.bc RK5.out 6; have hfr6 := blk_frozen RK5.out 6; have hcs0 := impl_HalfSay.bc BK5.out 0; have hfs0 := blk_frozen BK5.out 0; have hcs1 := impl_HalfSay.bc BK5.out 1; have hfs1 := blk_frozen BK5.out 1; have hcs2 := impl_HalfSay.bc BK5.out 2; have hfs2 := blk_frozen BK5.out 2; have hcs3 := impl_HalfSay.bc BK5.out 3; have hfs3 := blk_frozen BK5.out 3; have hcs4 := impl_HalfSay.bc BK5.out 4; have hfs4 := blk_frozen BK5.out 4; clear hb) | (go_at_call 9; (with_reducible refine (impl_isSubKind.calls kind true _ hK.out).mono ?_); rintro e w6 ⟨rfl, ⟨nd, rfl⟩⟩) | (go_at_call 10; refine (ACT_.out gb _ (by (with_reducible repeat (first | refine blk_drewN ?_ _ | refine blk_drew ?_)); exact BK5.out)).mono ?_; rintro e w7 ⟨rfl, hb7, hk7, hB7⟩; have BK7 := Aside0.mk hb7; have RK7 := Aside0.mk ((hk7 gr (Ne.symm NE.out)).trans RK5.out); have HB7 := Aside0.mk (hB7 _ _ (by repeat (first | (with_reducible first | exact HB5.out | apply below_alloc | apply pw_below_drewN | apply below_drew1) | exact HB5.out)) GE.out); have hct0 := impl_HalfSay.bc BK7.out 0; have hft0 := blk_frozen BK7.out 0; have hct1 := impl_HalfSay.bc BK7.out 1; have hft1 := blk_frozen BK7.out 1; have hct2 := impl_HalfSay.bc BK7.out 2; have hft2 := blk_frozen BK7.out 2; have hct3 := impl_HalfSay.bc BK7.out 3; have hft3 := blk_frozen BK7.out 3; have hct4 := impl_HalfSay.bc BK7.out 4; have hft4 := blk_frozen BK7.out 4; have hcu0 := impl_HalfSay.bc RK7.out 0; have hfu0 := blk_frozen RK7.out 0; have hcu1 := impl_HalfSay.bc RK7.out 1; have hfu1 := blk_frozen RK7.out 1; have hcu2 := impl_HalfSay.bc RK7.out 2; have hfu2 := blk_frozen RK7.out 2; have hcu3 := impl_HalfSay.bc RK7.out 3; have hfu3 := blk_frozen RK7.out 3; have hcu4 := impl_HalfSay.bc RK7.out 4; have hfu4 := blk_frozen RK7.out 4; have hcu5 := impl_HalfSay.bc RK7.out 5; have hfu5 := blk_frozen RK7.out 5; have hcu6 := impl_HalfSay.bc RK7.out 6; have hfu6 := blk_frozen RK7.out 6; clear hb7 hk7 hB7))
 refine bodyPost_ret (results_cell_row rfl _ _ gr 28 #[.int .i64 0, .int .i64 0, .int .i64 0, .int .i64 0, .int .i64 0, .slice none 0 0, .int .i64 c] (0, 0) _ rfl (by (with_reducible repeat (first | refine blk_drewN ?_ _ | refine blk_drew ?_ | refine blk_alloc ?_ _)); refine blk_put (cs := #[.int .i64 0, .int .i64 0, .int .i64 0, .int .i64 0, .int .i64 0, .slice none 0 0, .int .i64 0]) ?_ 6 _ rfl; (with_reducible repeat (first | refine blk_drewN ?_ _ | refine blk_drew ?_ | refine blk_alloc ?_ _)); refine blk_put (cs := #[.int .i64 0, .int .i64 0, .int .i64 0, .int .i64 0, .int .i64 0, .slice none 0 0, .int .i64 0]) ?_ 5 _ rfl; (with_reducible repeat (first | refine blk_drewN ?_ _ | refine blk_drew ?_ | refine blk_alloc ?_ _)); refine blk_put (cs := #[.int .i64 0, .int .i64 0, .int .i64 0, .int .i64 0, .int .i64 0, .slice none 0 0, .int .i64 0]) ?_ 4 _ rfl; (with_reducible repeat (first | refine blk_drewN ?_ _ | refine blk_drew ?_ | refine blk_alloc ?_ _)); refine blk_put (cs := #[.int .i64 0, .int .i64 0, .int .i64 0, .int .i64 0, .int .i64 0, .slice none 0 0, .int .i64 0]) ?_ 3 _ rfl; (with_reducible repeat (first | refine blk_drewN ?_ _ | refine blk_drew ?_ | refine blk_alloc ?_ _)); refine blk_put (cs := #[.int .i64 0, .int .i64 0, .int .i64 0, .int .i64 0, .int .i64 0, .slice none 0 0, .int .i64 0]) ?_ 2 _ rfl; (with_reducible repeat (first | refine blk_drewN ?_ _ | refine blk_drew ?_ | refine blk_alloc ?_ _)); refine blk_put (cs := #[.int .i64 0, .int .i64 0, .int .i64 0, .int .i64 0, .int .i64 0, .slice none 0 0, .int .i64 0]) ?_ 1 _ rfl; (with_reducible repeat (first | refine blk_drewN ?_ _ | refine blk_drew ?_ | refine blk_alloc ?_ _)); refine blk_put (cs := #[.int .i64 0, .int .i64 0, .int .i64 0, .int .i64 0, .int .i64 0, .slice none 0 0, .int .i64 0]) ?_ 0 _ rfl; (with_reducible repeat (first | refine blk_drewN ?_ _ | refine blk_drew ?_ | refine blk_alloc ?_ _)); exact RK7.out) Try.underlying28 rfl (by kernel_rfl)) rfl ?_
 exact ⟨_, rfl, Kd.R_nil _ _ _ _ _, by repeat (first | (with_reducible first | exact HB7.out | apply below_alloc | apply pw_below_drewN | apply below_drew1 | refine below_set ?_ GR.out) | exact HB7.out)⟩
set_option maxHeartbeats 8000000 in
set_option maxRecDepth 100000 in
theorem impl_HalfSay.ok (n o t i f kind m n' o' t' i' f' : Int) (w : World) (hR0 : impl_HalfRight.f n o t i f = some true) (hK0 : impl_isSubKind.f kind = some true) (act : ∀ (g : Nat) (W : World), W.heap[g]? = some (.cells #[.int .i64 n, .int .i64 o, .int .i64 t, .int .i64 i, .int .i64 f] 24 (0, 0)) → Calls Try.prog 10 #[.pointer (some ⟨g, 0, none⟩), .int .i64 kind] W fun e w' => e = .returned (.tuple #[.int .i64 m, .int .i64 0]) ∧ w'.heap[g]? = some (.cells #[.int .i64 n', .int .i64 o', .int .i64 t', .int .i64 i', .int .i64 f'] 24 (0, 0)) ∧ (∀ k_, k_ ≠ g → w'.heap[k_]? = W.heap[k_]?) ∧ ∀ B w0, Below B w0 W → B ≤ g → Below B w0 w') :
  Calls Try.prog 5 #[.agg #[.int .i64 n, .int .i64 o, .int .i64 t, .int .i64 i, .int .i64 f], .int .i64 kind] w fun e w' => ∃ v5_ : Value, e = .returned (.agg #[.int .i64 n', .int .i64 o', .int .i64 t', .int .i64 i', .int .i64 f', v5_, .int .i64 0]) ∧ Kd.R k32 32 w' w.heap.size (fun _ => True) v5_ [(⟨kind, m⟩ : S32)] ∧ Below w.heap.size w w' := by
 have hR := Aside0.mk hR0
 have hK := Aside0.mk hK0
 have ACT_ := Aside0.mk act
 clear hR0 hK0 act
 have hu24 := Try.underlying24
 have hu28 := Try.underlying28
 have hu32 := Try.underlying32
 go_enter Try.func5, Try.ntmps5
 go_wp2_with (first | ((with_reducible refine gate_dst (N := 2) rfl ?_); refine box_event ?hg (N := 2) ?hd (cs := #[.int .i64 n, .int .i64 o, .int .i64 t, .int .i64 i, .int .i64 f]) (t := 24) ?hr ?_; (case hd => rfl); (case hg => rfl); (case hr => first | (go_simp; done) | (go_simp; rfl)); intro gb hg w3 hbox hb; have BK := Aside0.mk hbox; have HB := Aside0.mk hb; have GE := Aside0.mk (Nat.le_of_eq hg.symm); have hcz0 := impl_HalfSay.bc BK.out 0; have hcz1 := impl_HalfSay.bc BK.out 1; have hcz2 := impl_HalfSay.bc BK.out 2; have hcz3 := impl_HalfSay.bc BK.out 3; have hcz4 := impl_HalfSay.bc BK.out 4; have hfz0 := blk_frozen BK.out 0; have hfz1 := blk_frozen BK.out 1; have hfz2 := blk_frozen BK.out 2; have hfz3 := blk_frozen BK.out 3; have hfz4 := blk_frozen BK.out 4; clear hbox hb hg) | ((with_reducible refine gate_dst (N := 4) rfl ?_); refine box_event ?hg (N := 4) ?hd (cs := #[.int .i64 0, .int .i64 0, .int .i64 0, .int .i64 0, .int .i64 0, .slice none 0 0, .int .i64 0]) (t := 28) ?hr ?_; (case hd => rfl); (case hg => rfl); (case hr => first | (go_simp; done) | (go_simp; rfl)); intro gr hg w4 hbox hb; have RK := Aside0.mk hbox; have BK4 := Aside0.mk (blk_below (g := gb) (o := .cells #[.int .i64 n, .int .i64 o, .int .i64 t, .int .i64 i, .int .i64 f] 24 (0, 0)) BK.out hb); have HB4 := Aside0.mk (below_step HB.out hb); have NE := Aside0.mk (show gb ≠ gr by rw [hg]; exact Nat.ne_of_lt (blk_lt (g := gb) (o := .cells #[.int .i64 n, .int .i64 o, .int .i64 t, .int .i64 i, .int .i64 f] 24 (0, 0)) BK.out)); have GR := Aside0.mk (show w.heap.size ≤ gr by rw [hg]; exact below_size HB.out); have hcb0 := impl_HalfSay.bc BK4.out 0; have hfb0 := blk_frozen BK4.out 0; have hcb1 := impl_HalfSay.bc BK4.out 1; have hfb1 := blk_frozen BK4.out 1; have hcb2 := impl_HalfSay.bc BK4.out 2; have hfb2 := blk_frozen BK4.out 2; have hcb3 := impl_HalfSay.bc BK4.out 3; have hfb3 := blk_frozen BK4.out 3; have hcb4 := impl_HalfSay.bc BK4.out 4; have hfb4 := blk_frozen BK4.out 4; clear hbox hb hg) | ((with_reducible refine gate_callee (f := 8) rfl ?_); refine goesL_ (some 8) rfl rfl Try.func8 (by kernel_rfl) rfl #[.agg #[.int .i64 n, .int .i64 o, .int .i64 t, .int .i64 i, .int .i64 f]] rfl zb0_1 ?_; (with_reducible refine (impl_HalfRight.calls n o t i f true _ hR.out).mono ?_); rintro e w5 ⟨rfl, hb⟩; refine ⟨_, rfl, ?_⟩; have BK5 := Aside0.mk (blk_below (g := gb) (o := .cells #[.int .i64 n, .int .i64 o, .int .i64 t, .int .i64 i, .int .i64 f] 24 (0, 0)) BK4.out hb); have RK5 := Aside0.mk (blk_below (g := gr) (o := .cells #[.int .i64 0, .int .i64 0, .int .i64 0, .int .i64 0, .int .i64 0, .slice none 0 0, .int .i64 0] 28 (0, 0)) RK.out hb); have HB5 := Aside0.mk (below_step HB4.out hb); have hcr0 := impl_HalfSay.bc RK5.out 0; have hfr0 := blk_frozen RK5.out 0; have hcr1 := impl_HalfSay.bc RK5.out 1; have hfr1 := blk_frozen RK5.out 1; have hcr2 := impl_HalfSay.bc RK5.out 2; have hfr2 := blk_frozen RK5.out 2; have hcr3 := impl_HalfSay.bc RK5.out 3; have hfr3 := blk_frozen RK5.out 3; have hcr4 := impl_HalfSay.bc RK5.out 4; have hfr4 := blk_frozen RK5.out 4; have hcr5 := impl_HalfSay.bc RK5.out 5; have hfr5 := blk_frozen RK5.out 5; have hcr6 := impl_HalfSay.bc RK5.out 6; have hfr6 := blk_frozen RK5.out 6; have hcs0 := impl_HalfSay.bc BK5.out 0; have hfs0 := blk_frozen BK5.out 0; have hcs1 := impl_HalfSay.bc BK5.out 1; have hfs1 := blk_frozen BK5.out 1; have hcs2 := impl_HalfSay.bc BK5.out 2; have hfs2 := blk_frozen BK5.out 2; have hcs3 := impl_HalfSay.bc BK5.out 3; have hfs3 := blk_frozen BK5.out 3; have hcs4 := impl_HalfSay.bc BK5.out 4; have hfs4 := blk_frozen BK5.out 4; clear hb) | (go_at_call 9; (with_reducible refine (impl_isSubKind.calls kind true _ hK.out).mono ?_); rintro e w6 ⟨rfl, ⟨nd, rfl⟩⟩) | (go_at_call 10; refine (ACT_.out gb _ (by (with_reducible repeat (first | refine blk_drewN ?_ _ | refine blk_drew ?_)); exact BK5.out)).mono ?_; rintro e w7 ⟨rfl, hb7, hk7, hB7⟩; have BK7 := Aside0.mk hb7; have RK7 := Aside0.mk ((hk7 gr (Ne.symm NE.out)).trans RK5.out); have HB7 := Aside0.mk (hB7 _ _ (by repeat (first | (with_reducible first | exact HB5.out | apply below_alloc | apply pw_below_drewN | apply below_drew1) | exact HB5.out)) GE.out); have hct0 := impl_HalfSay.bc BK7.out 0; have hft0 := blk_frozen BK7.out 0; have hct1 := impl_HalfSay.bc BK7.out 1; have hft1 := blk_frozen BK7.out 1; have hct2 := impl_HalfSay.bc BK7.out 2; have hft2 := blk_frozen BK7.out 2; have hct3 := impl_HalfSay.bc BK7.out 3; have hft3 := blk_frozen BK7.out 3; have hct4 := impl_HalfSay.bc BK7.out 4; have hft4 := blk_frozen BK7.out 4; have hcu0 := impl_HalfSay.bc RK7.out 0; have hfu0 := blk_frozen RK7.out 0; have hcu1 := impl_HalfSay.bc RK7.out 1; have hfu1 := blk_frozen RK7.out 1; have hcu2 := impl_HalfSay.bc RK7.out 2; have hfu2 := blk_frozen RK7.out 2; have hcu3 := impl_HalfSay.bc RK7.out 3; have hfu3 := blk_frozen RK7.out 3; have hcu4 := impl_HalfSay.bc RK7.out 4; have hfu4 := blk_frozen RK7.out 4; have hcu5 := impl_HalfSay.bc RK7.out 5; have hfu5 := blk_frozen RK7.out 5; have hcu6 := impl_HalfSay.bc RK7.out 6; have hfu6 := blk_frozen RK7.out 6; clear hb7 hk7 hB7) | ((with_reducible refine gate_dst (N := 29) rfl ?_); refine Kd.R_lit k32 _ 32 ?hg (N := 29) ?hd (xs := [(⟨kind, m⟩ : S32)]) (inner := [.int .i64 kind, .int .i64 m]) (ok := fun _ => True) (okp := fun _ => True) ?hr ?hp (fun _ hk => hk) trivial (Below.refl _ _) (Nat.le_refl _) (by simp) ?_; (case hd => rfl); (case hg => rfl); (case hr => first | (go_simp; done) | (go_simp; rfl)); (case hp => exact (Reps.none _ _).snoc (k32_mkM _ _ _ (⟨kind, m⟩ : S32)) rfl); intro v8 w8 ho8 hb8 hg_ hnew_; clear hg_ hnew_; obtain ⟨A8, c8, e8⟩ := Kd.R_slice ho8; subst e8; have HO8 := Aside0.mk (Kd.R_lower ho8 (below_size HB7.out)); have RK8 := Aside0.mk (blk_below (g := gr) (o := .cells #[.int .i64 0, .int .i64 0, .int .i64 0, .int .i64 0, .int .i64 0, .slice none 0 0, .int .i64 0] 28 (0, 0)) RK7.out hb8); have BK8 := Aside0.mk (blk_below (g := gb) (o := .cells #[.int .i64 n', .int .i64 o', .int .i64 t', .int .i64 i', .int .i64 f'] 24 (0, 0)) BK7.out hb8); have HB8 := Aside0.mk (below_step HB7.out hb8); have hcv0 := impl_HalfSay.bc RK8.out 0; have hfv0 := blk_frozen RK8.out 0; have hcv1 := impl_HalfSay.bc RK8.out 1; have hfv1 := blk_frozen RK8.out 1; have hcv2 := impl_HalfSay.bc RK8.out 2; have hfv2 := blk_frozen RK8.out 2; have hcv3 := impl_HalfSay.bc RK8.out 3; have hfv3 := blk_frozen RK8.out 3; have hcv4 := impl_HalfSay.bc RK8.out 4; have hfv4 := blk_frozen RK8.out 4; have hcv5 := impl_HalfSay.bc RK8.out 5; have hfv5 := blk_frozen RK8.out 5; have hcv6 := impl_HalfSay.bc RK8.out 6; have hfv6 := blk_frozen RK8.out 6; clear hb8 ho8))
 refine bodyPost_ret (results_cell_row rfl _ _ gr 28 #[.int .i64 n', .int .i64 o', .int .i64 t', .int .i64 i', .int .i64 f', .slice A8 1 c8, .int .i64 0] (0, 0) _ rfl (by (with_reducible repeat (first | refine blk_drewN ?_ _ | refine blk_drew ?_ | refine blk_alloc ?_ _)); refine blk_put (cs := #[.int .i64 n', .int .i64 o', .int .i64 t', .int .i64 i', .int .i64 f', .slice A8 1 c8, .int .i64 0]) ?_ 6 _ rfl; (with_reducible repeat (first | refine blk_drewN ?_ _ | refine blk_drew ?_ | refine blk_alloc ?_ _)); refine blk_put (cs := #[.int .i64 n', .int .i64 o', .int .i64 t', .int .i64 i', .int .i64 f', .slice none 0 0, .int .i64 0]) ?_ 5 _ rfl; (with_reducible repeat (first | refine blk_drewN ?_ _ | refine blk_drew ?_ | refine blk_alloc ?_ _)); refine blk_put (cs := #[.int .i64 n', .int .i64 o', .int .i64 t', .int .i64 i', .int .i64 0, .slice none 0 0, .int .i64 0]) ?_ 4 _ rfl; (with_reducible repeat (first | refine blk_drewN ?_ _ | refine blk_drew ?_ | refine blk_alloc ?_ _)); refine blk_put (cs := #[.int .i64 n', .int .i64 o', .int .i64 t', .int .i64 0, .int .i64 0, .slice none 0 0, .int .i64 0]) ?_ 3 _ rfl; (with_reducible repeat (first | refine blk_drewN ?_ _ | refine blk_drew ?_ | refine blk_alloc ?_ _)); refine blk_put (cs := #[.int .i64 n', .int .i64 o', .int .i64 0, .int .i64 0, .int .i64 0, .slice none 0 0, .int .i64 0]) ?_ 2 _ rfl; (with_reducible repeat (first | refine blk_drewN ?_ _ | refine blk_drew ?_ | refine blk_alloc ?_ _)); refine blk_put (cs := #[.int .i64 n', .int .i64 0, .int .i64 0, .int .i64 0, .int .i64 0, .slice none 0 0, .int .i64 0]) ?_ 1 _ rfl; (with_reducible repeat (first | refine blk_drewN ?_ _ | refine blk_drew ?_ | refine blk_alloc ?_ _)); refine blk_put (cs := #[.int .i64 0, .int .i64 0, .int .i64 0, .int .i64 0, .int .i64 0, .slice none 0 0, .int .i64 0]) ?_ 0 _ rfl; (with_reducible repeat (first | refine blk_drewN ?_ _ | refine blk_drew ?_ | refine blk_alloc ?_ _)); exact RK8.out) Try.underlying28 rfl (by kernel_rfl)) rfl ?_
 exact ⟨_, rfl, by (with_reducible repeat (first | apply Kd.R_alloc | apply Kd.R_drewN | apply Kd.R_drew)); exact Kd.R_mono (Kd.R_far (p := ⟨gr, 6, none⟩) (Kd.R_far (p := ⟨gr, 5, none⟩) (Kd.R_far (p := ⟨gr, 4, none⟩) (Kd.R_far (p := ⟨gr, 3, none⟩) (Kd.R_far (p := ⟨gr, 2, none⟩) (Kd.R_far (p := ⟨gr, 1, none⟩) (Kd.R_far (p := ⟨gr, 0, none⟩) (Kd.R_types HO8.out RK8.out (by decide)) (fun _ hk => hk.2) (.int .i64 n')) (fun _ hk => hk.2) (.int .i64 o')) (fun _ hk => hk.2) (.int .i64 t')) (fun _ hk => hk.2) (.int .i64 i')) (fun _ hk => hk.2) (.int .i64 f')) (fun _ hk => hk.2) (.slice A8 1 c8)) (fun _ hk => hk.2) (.int .i64 0)) (fun _ hk => trivial), by repeat (first | (with_reducible first | exact HB8.out | apply below_alloc | apply pw_below_drewN | apply below_drew1 | refine below_set ?_ GR.out) | exact HB8.out)⟩
theorem impl_HalfSay.calls (a0_0 : Int) (a0_1 : Int) (a0_2 : Int) (a0_3 : Int) (a0_4 : Int) (a1 : Int) (r1 : Int) (r2 : Int) (r3 : Int) (r4 : Int) (r5 : Int) (r6 : List (S32)) (r7 : Int) (w : World) (h : impl_HalfSay.f a0_0 a0_1 a0_2 a0_3 a0_4 a1 = some (r1, r2, r3, r4, r5, r6, r7)) :
  Calls Try.prog 5 #[.agg #[.int .i64 a0_0, .int .i64 a0_1, .int .i64 a0_2, .int .i64 a0_3, .int .i64 a0_4], .int .i64 a1] w fun e w' => ∃ v5_ : Value, e = .returned (.agg #[.int .i64 r1, .int .i64 r2, .int .i64 r3, .int .i64 r4, .int .i64 r5, v5_, .int .i64 r7]) ∧ Kd.R k32 32 w' w.heap.size (fun _ => True) v5_ r6 ∧ Below w.heap.size w w' := by
 unfold impl_HalfSay.f at h
 rw [impl_HalfSay.right_dec] at h
 simp only [Option.bind_some] at h
 by_cases hr : ((0 ≤ a0_0 ∧ a0_0 ≤ 1000000000) ∧ (0 ≤ a0_1 ∧ a0_1 ≤ a0_0 ∧ 0 ≤ a0_2 ∧ a0_2 ≤ a0_0 ∧ (a0_1 = 0 ∨ a0_2 = 0)) ∧ (0 ≤ a0_3 ∧ a0_3 ≤ 1000000000 ∧ 0 ≤ a0_4 ∧ a0_4 ≤ 1000000000 ∧ (a0_3 = 0 ∨ a0_4 = 0)))
 ·
  rw [if_pos (decide_eq_true hr)] at h
  have hR : impl_HalfRight.f a0_0 a0_1 a0_2 a0_3 a0_4 = some true := by rw [impl_HalfSay.right_dec, decide_eq_true hr]
  obtain ⟨⟨n0, n1⟩, ⟨o0, o1, t0, t1, ot⟩, ⟨i0, i1, f0, f1, jf⟩⟩ := hr
  by_cases hk : 1 ≤ a1 ∧ a1 ≤ 4
  ·
   rw [if_pos hk] at h
   have hK : impl_isSubKind.f a1 = some true := by rw [impl_HalfSay.kind_dec, decide_eq_true hk]
   have hr := Option.some.inj h
   clear h
   unfold impl_HalfSay.say impl_HalfSay.ill at hr
   have hk4 : a1 = 1 ∨ a1 = 3 ∨ a1 = 2 ∨ a1 = 4 := by omega
   rcases hk4 with rfl | rfl | rfl | rfl
   ·
    rw [if_pos rfl] at hr
    by_cases ho : a0_1 = 0
    ·
     subst ho
     rw [if_pos rfl] at hr
     by_cases ht : a0_2 = 0
     ·
      subst ht
      rw [if_pos rfl] at hr
      by_cases hn : a0_0 = 1000000000
      ·
       subst hn
       rw [if_pos rfl] at hr
       simp only [Prod.mk.injEq] at hr
       obtain ⟨rfl, rfl, rfl, rfl, rfl, rfl, rfl⟩ := hr
       exact impl_HalfSay.no _ _ _ _ _ 1 0 9 _ _ _ _ _ w hR hK rfl (fun g W hb => impl_HalfSay.ask_full g _ _ W hb)
      ·
       rw [if_neg hn] at hr
       simp only [Prod.mk.injEq] at hr
       obtain ⟨rfl, rfl, rfl, rfl, rfl, rfl, rfl⟩ := hr
       have hw := impl_HalfSay.w64 (a0_0 + 1) (by omega) (by omega)
       exact impl_HalfSay.ok _ _ _ _ _ 1 (a0_0 + 1) _ _ _ _ _ w hR hK (fun g W hb => by
        have hx := impl_HalfSay.ask_ g a0_0 a0_3 a0_4 W hb (beq_eq_false_iff_ne.mpr hn) (by rw [hw]; exact beq_eq_false_iff_ne.mpr (by omega))
        rw [hw] at hx
        exact hx)
     ·
      rw [if_neg ht] at hr
      simp only [Prod.mk.injEq] at hr
      obtain ⟨rfl, rfl, rfl, rfl, rfl, rfl, rfl⟩ := hr
      exact impl_HalfSay.no _ _ _ _ _ 1 0 10 _ _ _ _ _ w hR hK rfl (fun g W hb => impl_HalfSay.ask_t g _ _ _ _ W hb (bne_iff_ne.mpr ht))
    ·
     rw [if_neg ho] at hr
     simp only [Prod.mk.injEq] at hr
     obtain ⟨rfl, rfl, rfl, rfl, rfl, rfl, rfl⟩ := hr
     exact impl_HalfSay.no _ _ _ _ _ 1 0 10 _ _ _ _ _ w hR hK rfl (fun g W hb => impl_HalfSay.ask_o g _ _ _ _ _ W hb (bne_iff_ne.mpr ho))
   ·
    rw [if_neg (by decide), if_pos rfl] at hr
    have hw := impl_HalfSay.w64 (a0_1 + a0_2) (by omega) (by omega)
    by_cases hm : a0_1 + a0_2 = 0
    ·
     rw [if_pos hm] at hr
     simp only [Prod.mk.injEq] at hr
     obtain ⟨rfl, rfl, rfl, rfl, rfl, rfl, rfl⟩ := hr
     exact impl_HalfSay.no _ _ _ _ _ 3 _ 10 _ _ _ _ _ w hR hK rfl (fun g W hb => impl_HalfSay.leave_no g _ _ _ _ _ W hb (by rw [hw]; exact beq_iff_eq.mpr hm))
    ·
     rw [if_neg hm] at hr
     simp only [Prod.mk.injEq] at hr
     obtain ⟨rfl, rfl, rfl, rfl, rfl, rfl, rfl⟩ := hr
     exact impl_HalfSay.ok _ _ _ _ _ 3 (a0_1 + a0_2) _ _ _ _ _ w hR hK (fun g W hb => by
      have hx := impl_HalfSay.leave_ g _ _ _ _ _ W hb (by rw [hw]; exact beq_eq_false_iff_ne.mpr hm)
      rw [hw] at hx
      exact hx)
   ·
    rw [if_neg (by decide), if_neg (by decide), if_pos rfl] at hr
    by_cases hm : a0_3 = 0
    ·
     rw [if_pos hm] at hr
     simp only [Prod.mk.injEq] at hr
     obtain ⟨rfl, rfl, rfl, rfl, rfl, rfl, rfl⟩ := hr
     exact impl_HalfSay.no _ _ _ _ _ 2 _ 10 _ _ _ _ _ w hR hK rfl (fun g W hb => impl_HalfSay.grant_no g _ _ _ _ _ W hb (beq_iff_eq.mpr hm))
    ·
     rw [if_neg hm] at hr
     simp only [Prod.mk.injEq] at hr
     obtain ⟨rfl, rfl, rfl, rfl, rfl, rfl, rfl⟩ := hr
     exact impl_HalfSay.ok _ _ _ _ _ 2 a0_3 _ _ _ _ _ w hR hK (fun g W hb => impl_HalfSay.grant_ g _ _ _ _ _ W hb (beq_eq_false_iff_ne.mpr hm))
   ·
    rw [if_neg (by decide), if_neg (by decide), if_neg (by decide)] at hr
    have hw := impl_HalfSay.w64 (a0_3 + a0_4) (by omega) (by omega)
    by_cases hm : a0_3 + a0_4 = 0
    ·
     rw [if_pos hm] at hr
     simp only [Prod.mk.injEq] at hr
     obtain ⟨rfl, rfl, rfl, rfl, rfl, rfl, rfl⟩ := hr
     exact impl_HalfSay.no _ _ _ _ _ 4 _ 10 _ _ _ _ _ w hR hK rfl (fun g W hb => impl_HalfSay.deny_no g _ _ _ _ _ W hb (by rw [hw]; exact beq_iff_eq.mpr hm))
    ·
     rw [if_neg hm] at hr
     simp only [Prod.mk.injEq] at hr
     obtain ⟨rfl, rfl, rfl, rfl, rfl, rfl, rfl⟩ := hr
     exact impl_HalfSay.ok _ _ _ _ _ 4 (a0_3 + a0_4) _ _ _ _ _ w hR hK (fun g W hb => by
      have hx := impl_HalfSay.deny_ g _ _ _ _ _ W hb (by rw [hw]; exact beq_eq_false_iff_ne.mpr hm)
      rw [hw] at hx
      exact hx)
  ·
   rw [if_neg hk] at h
   have hr := Option.some.inj h
   unfold impl_HalfSay.ill at hr
   simp only [Prod.mk.injEq] at hr
   obtain ⟨rfl, rfl, rfl, rfl, rfl, rfl, rfl⟩ := hr
   exact impl_HalfSay.ill1 _ _ _ _ _ _ w hR (by rw [impl_HalfSay.kind_dec, decide_eq_false hk])
 ·
  rw [if_neg (by simpa using hr)] at h
  have hr2 := Option.some.inj h
  unfold impl_HalfSay.ill at hr2
  simp only [Prod.mk.injEq] at hr2
  obtain ⟨rfl, rfl, rfl, rfl, rfl, rfl, rfl⟩ := hr2
  exact impl_HalfSay.ill0 _ _ _ _ _ _ w (by rw [impl_HalfSay.right_dec, decide_eq_false hr])

/-! ### impl_isId: function 16 -/
def impl_isId.f (a0 : Int) : Option (Bool) := (impl_in.f a0 1 1000000000).bind fun t110 => (some t110)
set_option maxHeartbeats 8000000 in
set_option maxRecDepth 100000 in
theorem impl_isId.calls (a0 : Int) (r : Bool) (w : World) (h : impl_isId.f a0 = some r) :
  Calls Try.prog 16 #[.int .i64 a0] w fun e w' => e = .returned (.bool r) ∧ Drawn0 w w' := by
 have H : ((impl_in.f a0 1 1000000000).bind fun t110 => (some t110)) = some r := h
 clear h
 replace H := Option.bind_eq_some_iff.mp H
 obtain ⟨t110, A20, H⟩ := H
 replace H : (some t110) = some r := H
 have A2 := Aside0.mk A20
 clear A20
 obtain rfl := Option.some.inj H
 go_enter Try.func16, Try.ntmps16
 go_wp2_with (first | ((with_reducible refine gate_callee (f := 15) rfl ?_); refine goesL_ (some 4) rfl rfl Try.func15 (by kernel_rfl) rfl #[.int .i64 a0, .int .i64 1, .int .i64 1000000000] rfl zb0_1 ?_; (with_reducible refine (impl_in.calls a0 1 1000000000 t110 _ A2.out).mono ?_); rintro e w' ⟨rfl, ⟨nd, rfl⟩⟩; refine ⟨_, rfl, ?_⟩))
 go_ret
 exact ⟨by first | rfl | (simp; done) | (simp [*]; done), by repeat (first | exact Drawn0.refl _ | apply Drawn0.step)⟩

/-! ### impl_subRight: function 11 -/
def impl_subRight.f (a0_0 : Int) (a0_1 : Int) : Option (Bool) := (impl_isSubKind.f a0_0).bind fun t112 => (if t112 = true then ((impl_isId.f a0_1).bind fun t113 => (some t113)) else (some false))
set_option maxHeartbeats 8000000 in
set_option maxRecDepth 100000 in
theorem impl_subRight.calls (a0_0 : Int) (a0_1 : Int) (r : Bool) (w : World) (h : impl_subRight.f a0_0 a0_1 = some r) :
  Calls Try.prog 11 #[.agg #[.int .i64 a0_0, .int .i64 a0_1]] w fun e w' => e = .returned (.bool r) ∧ Below w.heap.size w w' := by
 have hu32 := Try.underlying32
 have HB := Aside0.mk (Below.refl w.heap.size w)
 have H : ((impl_isSubKind.f a0_0).bind fun t112 => (if t112 = true then ((impl_isId.f a0_1).bind fun t113 => (some t113)) else (some false))) = some r := h
 clear h
 replace H := Option.bind_eq_some_iff.mp H
 obtain ⟨t112, A20, H⟩ := H
 replace H : (if t112 = true then ((impl_isId.f a0_1).bind fun t113 => (some t113)) else (some false)) = some r := H
 have A2 := Aside0.mk A20
 clear A20
 by_cases c3 : t112 = true
 ·
  subst c3
  have H1 : ((impl_isId.f a0_1).bind fun t113 => (some t113)) = some r := by rw [if_pos rfl] at H; exact H
  clear H
  have H := H1
  clear H1
  replace H := Option.bind_eq_some_iff.mp H
  obtain ⟨t113, A40, H⟩ := H
  replace H : (some t113) = some r := H
  have A4 := Aside0.mk A40
  clear A40
  obtain rfl := Option.some.inj H
  go_enter Try.func11, Try.ntmps11
  go_wp2_with (first | ((with_reducible refine gate_dst (N := 1) rfl ?_); refine box_event ?hg (N := 1) ?hd (cs := #[.int .i64 a0_0, .int .i64 a0_1]) (t := 32) ?hr ?_; (case hd => rfl); (case hg => rfl); (case hr => first | (go_simp; done) | (go_simp; rfl)); intro gb111 hg w5 hbox hb; have n0_ := Aside0.mk (below_step zb1_1 hb); have n1_ := Aside0.mk (hbox); have n2_ := Aside0.mk ((zb2_1 : w.heap.size ≤ gb111)); have n3_ := Aside0.mk ((zb2_1 : w.heap.size ≤ gb111)); clear HB; have HB := n0_; have BK111 := n1_; have GW111 := n2_; have GE111 := n3_; clear n0_ n1_ n2_ n3_; clear hb hbox hg; have hcz6_0 := bcq_1 BK111.out 0; have hcz6_1 := bcq_1 BK111.out 1; have hfz6_0 := blk_frozen BK111.out 0; have hfz6_1 := blk_frozen BK111.out 1) | ((with_reducible refine gate_callee (f := 9) rfl ?_); refine goesL_ (some 5) rfl rfl Try.func9 (by kernel_rfl) rfl #[.int .i64 a0_0] rfl zb0_1 ?_; (with_reducible refine (impl_isSubKind.calls a0_0 true _ A2.out).mono ?_); rintro e w' ⟨rfl, ⟨nd, rfl⟩⟩; refine ⟨_, rfl, ?_⟩) | (go_at_call 16; (with_reducible refine (impl_isId.calls a0_1 t113 _ A4.out).mono ?_); rintro e w' ⟨rfl, ⟨nd, rfl⟩⟩))
  go_ret
  exact ⟨by first | rfl | (simp [errW_none, errW_some] <;> rfl) | (simp [*, errW_none, errW_some] <;> rfl), by repeat (first | (with_reducible first | exact HB.out | apply below_alloc | apply pw_below_drewN | apply below_drew1 | refine below_set ?_ GE111.out) | exact HB.out)⟩
 ·
  replace c3 := Bool.eq_false_iff.mpr c3
  subst c3
  have H1 : (some false) = some r := by rw [if_neg (show ¬ (false = true) by decide)] at H; exact H
  clear H
  have H := H1
  clear H1
  obtain rfl := Option.some.inj H
  go_enter Try.func11, Try.ntmps11
  go_wp2_with (first | ((with_reducible refine gate_dst (N := 1) rfl ?_); refine box_event ?hg (N := 1) ?hd (cs := #[.int .i64 a0_0, .int .i64 a0_1]) (t := 32) ?hr ?_; (case hd => rfl); (case hg => rfl); (case hr => first | (go_simp; done) | (go_simp; rfl)); intro gb111 hg w7 hbox hb; have n0_ := Aside0.mk (below_step zb1_1 hb); have n1_ := Aside0.mk (hbox); have n2_ := Aside0.mk ((zb2_1 : w.heap.size ≤ gb111)); have n3_ := Aside0.mk ((zb2_1 : w.heap.size ≤ gb111)); clear HB; have HB := n0_; have BK111 := n1_; have GW111 := n2_; have GE111 := n3_; clear n0_ n1_ n2_ n3_; clear hb hbox hg; have hcz8_0 := bcq_1 BK111.out 0; have hcz8_1 := bcq_1 BK111.out 1; have hfz8_0 := blk_frozen BK111.out 0; have hfz8_1 := blk_frozen BK111.out 1) | ((with_reducible refine gate_callee (f := 9) rfl ?_); refine goesL_ (some 5) rfl rfl Try.func9 (by kernel_rfl) rfl #[.int .i64 a0_0] rfl zb0_1 ?_; (with_reducible refine (impl_isSubKind.calls a0_0 false _ A2.out).mono ?_); rintro e w' ⟨rfl, ⟨nd, rfl⟩⟩; refine ⟨_, rfl, ?_⟩))
  go_ret
  exact ⟨by first | rfl | (simp [errW_none, errW_some] <;> rfl) | (simp [*, errW_none, errW_some] <;> rfl), by repeat (first | (with_reducible first | exact HB.out | apply below_alloc | apply pw_below_drewN | apply below_drew1 | refine below_set ?_ GE111.out) | exact HB.out)⟩

-- NOT PRINTED: function 12 (impl_Half_hear)

end Go.Proofs.Ytohohkgeaclgjaa.QFnTwo
