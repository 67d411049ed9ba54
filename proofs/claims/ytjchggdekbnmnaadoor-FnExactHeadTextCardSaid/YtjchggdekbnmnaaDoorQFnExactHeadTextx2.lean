-- laid by this session's own runner (wip/print2.py): not a printed file
import Derived.Test.YtjchggdekbnmnaaDoorQFnExactHeadTextx0
import Derived.Test.YtjchggdekbnmnaaDoorQFnExactHeadTextx1
namespace Go.Proofs.YtjchggdekbnmnaaDoor.QFnExactHeadText
open Go.RowKit Go.Proofs.YtjchggdekbnmnaaDoorW.PrintWords Go.Proofs.YtjchggdekbnmnaaDoorW.PrintLast Go.Proofs.YtjchggdekbnmnaaDoorW.PrintMore
attribute [local go_sem] max2_int min2_int max_two min_two max_three min_three max_four min_four   -- for this text's walks alone
set_option linter.unusedVariables false
set_option linter.unusedSimpArgs false

theorem zp_2 {P : Program} {md : Region.Mode} {ops : Array Oper} {Q : Exit → Act → World → Prop} {S : World → Prop} {ds : List Nat} {T : Bool × List (List Nat × List Nat)} {fuel : Nat} {l : Array Bool} {a : Act} {w : World} {oi : Oper} {v : Value} {a' : Act} (i : Nat) (N : Option Tmp) (l' : Array Bool) (hT : Aside0 (rtab md ops = T))
    (h : wpAnyLast P md ops Q S ds fuel l' a' w) (hc : anyT T l.toList l'.toList i = true := by kernel_rfl) (hi : ops[i]? = some oi := by rfl) (hN : oi.dst = N := by rfl) (hQ : ∀ c a w, Q (.panic c) (a.put oi.dst v) w → Q (.panic c) a w := by exact fun _ _ _ h => h)
    (hy : Yields P ops oi v a := by (refine Or.inl ⟨by rfl, ?_⟩; intro w'; go_simp; with_reducible rfl)) (ha : a.put N v = a' := by (simp only [Act.put, List.setIfInBounds_toArray, List.set_cons_zero, List.set_cons_succ, i64_w, i32_w]; rfl)) : wpAnyLast P md ops Q S ds (fuel + 1) l a w :=
  pure_ l' hi hN (any_of hT.out hc) hQ hy ha h
theorem zu_2 {P : Program} {md : Region.Mode} {ops : Array Oper} {Q : Exit → Act → World → Prop} {S : World → Prop} {ds : List Nat} {T : Bool × List (List Nat × List Nat)} {fuel : Nat} {l : Array Bool} {a : Act} {w : World} {oi : Oper} {a' : Act} (i : Nat) (N : Option Tmp) (l' : Array Bool) (hT : Aside0 (rtab md ops = T))
    (h : wpAnyLast P md ops Q S ds fuel l' a' w) (hc : anyT T l.toList l'.toList i = true := by kernel_rfl) (hi : ops[i]? = some oi := by rfl) (hN : oi.dst = N := by rfl) (hQ : ∀ c a w, Q (.panic c) (a.put oi.dst undef) w → Q (.panic c) a w := by exact fun _ _ _ h => h)
    (hy : Yields P ops oi undef a := by exact Or.inr ⟨by rfl, rfl⟩) (ha : a.put N undef = a' := by (simp only [Act.put, List.setIfInBounds_toArray, List.set_cons_zero, List.set_cons_succ, i64_w, i32_w]; rfl)) : wpAnyLast P md ops Q S ds (fuel + 1) l a w :=
  pure_ l' hi hN (any_of hT.out hc) hQ hy ha h
abbrev zm0_2 : Array Bool := #[false, false, false, false, false, false, false, false, false, false, false, false, false, false]
abbrev zm1_2 : Array Bool := #[true, false, false, false, false, false, false, false, false, false, false, false, false, false]
abbrev zm2_2 : Array Bool := #[true, false, false, false, true, false, false, false, false, false, false, false, false, false]
abbrev zm3_2 : Array Bool := #[true, false, false, false, true, false, false, false, true, false, false, false, false, false]
abbrev zm4_2 : Array Bool := #[true, true, false, false, true, false, false, false, true, false, false, false, false, false]
abbrev zm5_2 : Array Bool := #[true, true, true, false, true, false, false, false, true, false, false, false, false, false]
abbrev zm6_2 : Array Bool := #[true, true, true, true, true, false, false, false, true, false, false, false, false, false]
abbrev zm7_2 : Array Bool := #[true, true, true, true, true, true, false, false, true, false, false, false, false, false]
abbrev zm8_2 : Array Bool := #[true, true, true, true, true, true, true, false, true, false, false, false, false, false]
abbrev zm9_2 : Array Bool := #[true, true, true, true, true, true, true, true, true, false, false, false, false, false]
abbrev zm10_2 : Array Bool := #[true, true, true, true, true, true, true, true, true, true, false, false, false, false]
abbrev zm11_2 : Array Bool := #[true, true, true, true, true, true, true, true, true, true, true, false, false, false]
abbrev zm12_2 : Array Bool := #[true, true, true, true, true, true, true, true, true, true, true, true, false, false]
abbrev zm13_2 : Array Bool := #[true, true, true, true, true, true, true, true, true, true, true, true, true, false]
abbrev zm14_2 : Array Bool := #[true, true, true, true, true, true, true, true, true, true, true, true, true, true]
theorem bcq_2 {w : World} {g t : Nat} {cs : Array Value} {v : Value} (h : w.heap[g]? = some (.cells cs t (0, 0))) (j : Nat) (e : cs[j]? = some v := by rfl) : w.cell? ⟨g, j, none⟩ = some v := (blk_cell h j).trans e
theorem zb0_2 {P : Prop} (h : P := by repeat (first | (with_reducible first | exact HB.out | apply below_alloc | apply pw_below_drewN | apply below_drew1) | exact HB.out)) : P := h
theorem zb1_2 {P : Prop} (h : P := by rw [hg]; exact (below_size (by repeat (first | (with_reducible first | exact HB.out | apply below_alloc | apply pw_below_drewN | apply below_drew1) | exact HB.out)))) : P := h
theorem zb2_2 {P : Prop} (h : P := by (try simp only [List.map_toArray, List.map_cons, List.map_nil]); first | done | rfl | (simp only [List.length_drop, List.length_take]; rfl)) : P := h
theorem zb3_2 {P : Prop} (h : P := by first | rfl | (simp; done) | (simp [*]; done)) : P := h
theorem zb4_2 {P : Prop} (h : P := by (with_reducible repeat (first | refine blk_drewN ?_ _ | refine blk_drew ?_ | refine blk_alloc ?_ _)); exact BK114.out) : P := h
theorem zb5_2 {P : Prop} (h : P := by repeat (first | (with_reducible first | exact HB.out | apply below_alloc | apply pw_below_drewN | apply below_drew1 | refine below_set ?_ GE114.out) | exact HB.out)) : P := h
theorem zb6_2 {P : Prop} (h : P := by (with_reducible repeat (first | refine blk_drewN ?_ _ | refine blk_drew ?_ | refine blk_alloc ?_ _)); exact BK117.out) : P := h
theorem zb7_2 {P : Prop} (h : P := by repeat (first | (with_reducible first | exact HB.out | apply below_alloc | apply pw_below_drewN | apply below_drew1 | refine below_set ?_ GE117.out) | exact HB.out)) : P := h
theorem zb8_2 {P : Prop} (h : P := by (with_reducible repeat (first | refine blk_drewN ?_ _ | refine blk_drew ?_ | refine blk_alloc ?_ _)); exact BK118.out) : P := h
theorem zb9_2 {P : Prop} (h : P := by repeat (first | (with_reducible first | exact HB.out | apply below_alloc | apply pw_below_drewN | apply below_drew1 | refine below_set ?_ GE117.out | refine below_set ?_ GE118.out) | exact HB.out)) : P := h
theorem zb10_2 {P : Prop} (h : P := by first | (with_reducible assumption) | assumption) : P := h
/-! ### spec_l05Head: function 42 -/
def spec_l05Head.f (k : Nat) (a0_0 : ByteArray) (a0_1 : ByteArray) (a0_2 : Int) : Option (Bool) := (spec_l05Domain.f k a0_0).bind fun t105 => (if t105 = true then ((spec_l05Domain.f k a0_1).bind fun t106 => (if t106 = true then ((spec_l03Is.f a0_2 1 1000000000).bind fun t107 => (some t107)) else (some false))) else (some false))
theorem spec_l05Head.mono : ∀ a0 a1 a2 k, LeO (spec_l05Head.f k a0 a1 a2) (spec_l05Head.f (k + 1) a0 a1 a2) := by
 intro a0 a1 a2 k
 unfold spec_l05Head.f
 repeat' first
   | (with_reducible exact spec_l05Domain.mono _ _)
   | (with_reducible exact LeO.refl _)
   | (with_reducible exact LeO.none _)
   | (with_reducible refine LeO.ite ?_ ?_)
   | (with_reducible refine LeO.bind ?_ (fun _ => ?_))
   | exact spec_l05Domain.mono _ _
   | exact LeO.none _
   | refine LeO.ite ?_ ?_
   | refine LeO.bind ?_ (fun _ => ?_)
set_option maxHeartbeats 8000000 in
set_option maxRecDepth 100000 in
theorem spec_l05Head.calls (k : Nat) (a0_0 : ByteArray) (a0_1 : ByteArray) (a0_2 : Int) (r : Bool) (w : World) (h : spec_l05Head.f k a0_0 a0_1 a0_2 = some r) :
  Calls Tryd.prog 42 #[.agg #[.string a0_0, .string a0_1, .int .i64 a0_2]] w fun e w' => e = .returned (.bool r) ∧ Below w.heap.size w w' := by
 have hu28 := Tryd.underlying28
 have HB := Aside0.mk (Below.refl w.heap.size w)
 have H : ((spec_l05Domain.f k a0_0).bind fun t105 => (if t105 = true then ((spec_l05Domain.f k a0_1).bind fun t106 => (if t106 = true then ((spec_l03Is.f a0_2 1 1000000000).bind fun t107 => (some t107)) else (some false))) else (some false))) = some r := h
 clear h
 replace H := Option.bind_eq_some_iff.mp H
 obtain ⟨t105, A20, H⟩ := H
 replace H : (if t105 = true then ((spec_l05Domain.f k a0_1).bind fun t106 => (if t106 = true then ((spec_l03Is.f a0_2 1 1000000000).bind fun t107 => (some t107)) else (some false))) else (some false)) = some r := H
 have A2 := Aside0.mk A20
 clear A20
 by_cases c3 : t105 = true
 ·
  subst c3
  have H1 : ((spec_l05Domain.f k a0_1).bind fun t106 => (if t106 = true then ((spec_l03Is.f a0_2 1 1000000000).bind fun t107 => (some t107)) else (some false))) = some r := by rw [if_pos rfl] at H; exact H
  clear H
  have H := H1
  clear H1
  replace H := Option.bind_eq_some_iff.mp H
  obtain ⟨t106, A40, H⟩ := H
  replace H : (if t106 = true then ((spec_l03Is.f a0_2 1 1000000000).bind fun t107 => (some t107)) else (some false)) = some r := H
  have A4 := Aside0.mk A40
  clear A40
  by_cases c5 : t106 = true
  ·
   subst c5
   have H1 : ((spec_l03Is.f a0_2 1 1000000000).bind fun t107 => (some t107)) = some r := by rw [if_pos rfl] at H; exact H
   clear H
   have H := H1
   clear H1
   replace H := Option.bind_eq_some_iff.mp H
   obtain ⟨t107, A60, H⟩ := H
   replace H : (some t107) = some r := H
   have A6 := Aside0.mk A60
   clear A60
   obtain rfl := Option.some.inj H
   go_enter Tryd.func42, Tryd.ntmps42
   go_wp2_with (first | ((with_reducible refine gate_dst (N := 1) rfl ?_); refine box_event ?hg (N := 1) ?hd (cs := #[.string a0_0, .string a0_1, .int .i64 a0_2]) (t := 28) ?hr ?_; (case hd => rfl); (case hg => rfl); (case hr => first | (go_simp; done) | (go_simp; rfl)); intro gb104 hg w7 hbox hb; have n0_ := Aside0.mk (below_step zb0_2 hb); have n1_ := Aside0.mk (hbox); have n2_ := Aside0.mk ((zb1_2 : w.heap.size ≤ gb104)); have n3_ := Aside0.mk ((zb1_2 : w.heap.size ≤ gb104)); clear HB; have HB := n0_; have BK104 := n1_; have GW104 := n2_; have GE104 := n3_; clear n0_ n1_ n2_ n3_; clear hb hbox hg; have hcz8_0 := bcq_2 BK104.out 0; have hcz8_1 := bcq_2 BK104.out 1; have hcz8_2 := bcq_2 BK104.out 2; have hfz8_0 := blk_frozen BK104.out 0; have hfz8_1 := blk_frozen BK104.out 1; have hfz8_2 := blk_frozen BK104.out 2) | ((with_reducible refine gate_callee (f := 46) rfl ?_); refine goesL_ (some 5) rfl rfl Tryd.func46 (by kernel_rfl) rfl #[.string a0_0] rfl zb2_2 ?_; (with_reducible refine (spec_l05Domain.calls k a0_0 true _ A2.out).mono ?_); rintro e w' ⟨rfl, ⟨nd, rfl⟩⟩; refine ⟨_, rfl, ?_⟩) | (go_at_call 46; (with_reducible refine (spec_l05Domain.calls k a0_1 true _ A4.out).mono ?_); rintro e w' ⟨rfl, ⟨nd, rfl⟩⟩) | (go_at_call 47; (with_reducible refine (spec_l03Is.calls a0_2 1 1000000000 t107 _ A6.out).mono ?_); rintro e w' ⟨rfl, ⟨nd, rfl⟩⟩))
   go_ret
   exact ⟨by first | rfl | (simp [errW_none, errW_some] <;> rfl) | (simp [*, errW_none, errW_some] <;> rfl), by repeat (first | (with_reducible first | exact HB.out | apply below_alloc | apply pw_below_drewN | apply below_drew1 | refine below_set ?_ GE104.out) | exact HB.out)⟩
  ·
   replace c5 := Bool.eq_false_iff.mpr c5
   subst c5
   have H1 : (some false) = some r := by rw [if_neg (show ¬ (false = true) by decide)] at H; exact H
   clear H
   have H := H1
   clear H1
   obtain rfl := Option.some.inj H
   go_enter Tryd.func42, Tryd.ntmps42
   go_wp2_with (first | ((with_reducible refine gate_dst (N := 1) rfl ?_); refine box_event ?hg (N := 1) ?hd (cs := #[.string a0_0, .string a0_1, .int .i64 a0_2]) (t := 28) ?hr ?_; (case hd => rfl); (case hg => rfl); (case hr => first | (go_simp; done) | (go_simp; rfl)); intro gb104 hg w9 hbox hb; have n0_ := Aside0.mk (below_step zb0_2 hb); have n1_ := Aside0.mk (hbox); have n2_ := Aside0.mk ((zb1_2 : w.heap.size ≤ gb104)); have n3_ := Aside0.mk ((zb1_2 : w.heap.size ≤ gb104)); clear HB; have HB := n0_; have BK104 := n1_; have GW104 := n2_; have GE104 := n3_; clear n0_ n1_ n2_ n3_; clear hb hbox hg; have hcz10_0 := bcq_2 BK104.out 0; have hcz10_1 := bcq_2 BK104.out 1; have hcz10_2 := bcq_2 BK104.out 2; have hfz10_0 := blk_frozen BK104.out 0; have hfz10_1 := blk_frozen BK104.out 1; have hfz10_2 := blk_frozen BK104.out 2) | ((with_reducible refine gate_callee (f := 46) rfl ?_); refine goesL_ (some 5) rfl rfl Tryd.func46 (by kernel_rfl) rfl #[.string a0_0] rfl zb2_2 ?_; (with_reducible refine (spec_l05Domain.calls k a0_0 true _ A2.out).mono ?_); rintro e w' ⟨rfl, ⟨nd, rfl⟩⟩; refine ⟨_, rfl, ?_⟩) | (go_at_call 46; (with_reducible refine (spec_l05Domain.calls k a0_1 false _ A4.out).mono ?_); rintro e w' ⟨rfl, ⟨nd, rfl⟩⟩))
   go_ret
   exact ⟨by first | rfl | (simp [errW_none, errW_some] <;> rfl) | (simp [*, errW_none, errW_some] <;> rfl), by repeat (first | (with_reducible first | exact HB.out | apply below_alloc | apply pw_below_drewN | apply below_drew1 | refine below_set ?_ GE104.out) | exact HB.out)⟩
 ·
  replace c3 := Bool.eq_false_iff.mpr c3
  subst c3
  have H1 : (some false) = some r := by rw [if_neg (show ¬ (false = true) by decide)] at H; exact H
  clear H
  have H := H1
  clear H1
  obtain rfl := Option.some.inj H
  go_enter Tryd.func42, Tryd.ntmps42
  go_wp2_with (first | ((with_reducible refine gate_dst (N := 1) rfl ?_); refine box_event ?hg (N := 1) ?hd (cs := #[.string a0_0, .string a0_1, .int .i64 a0_2]) (t := 28) ?hr ?_; (case hd => rfl); (case hg => rfl); (case hr => first | (go_simp; done) | (go_simp; rfl)); intro gb104 hg w11 hbox hb; have n0_ := Aside0.mk (below_step zb0_2 hb); have n1_ := Aside0.mk (hbox); have n2_ := Aside0.mk ((zb1_2 : w.heap.size ≤ gb104)); have n3_ := Aside0.mk ((zb1_2 : w.heap.size ≤ gb104)); clear HB; have HB := n0_; have BK104 := n1_; have GW104 := n2_; have GE104 := n3_; clear n0_ n1_ n2_ n3_; clear hb hbox hg; have hcz12_0 := bcq_2 BK104.out 0; have hcz12_1 := bcq_2 BK104.out 1; have hcz12_2 := bcq_2 BK104.out 2; have hfz12_0 := blk_frozen BK104.out 0; have hfz12_1 := blk_frozen BK104.out 1; have hfz12_2 := blk_frozen BK104.out 2) | ((with_reducible refine gate_callee (f := 46) rfl ?_); refine goesL_ (some 5) rfl rfl Tryd.func46 (by kernel_rfl) rfl #[.string a0_0] rfl zb2_2 ?_; (with_reducible refine (spec_l05Domain.calls k a0_0 false _ A2.out).mono ?_); rintro e w' ⟨rfl, ⟨nd, rfl⟩⟩; refine ⟨_, rfl, ?_⟩))
  go_ret
  exact ⟨by first | rfl | (simp [errW_none, errW_some] <;> rfl) | (simp [*, errW_none, errW_some] <;> rfl), by repeat (first | (with_reducible first | exact HB.out | apply below_alloc | apply pw_below_drewN | apply below_drew1 | refine below_set ?_ GE104.out) | exact HB.out)⟩

/-! ### spec_l01Dec: function 55 -/
def spec_l01Dec.l0 : Nat → Int → Bool → ByteArray → Option (ByteArray)
 | 0, _, _, _ => none
 | k + 1, x0, x3, x4 => if x0 = 0 then (if x3 = true then (if 1 + x4.size ≤ 9223372036854775807 then (some ((⟨#[45]⟩ : ByteArray) ++ x4)) else (none)) else (some x4)) else (if (Int.tmod x0 10) < 0 then ((some (([(wrap64 (48 + (wrap64 (-(Int.tmod x0 10))))) % 256] : List Int) : List Int)).bind fun y108 => (if (strOfNums y108).size + x4.size ≤ 9223372036854775807 then (spec_l01Dec.l0 k (wrap64 (Int.tdiv x0 10)) x3 ((strOfNums y108) ++ x4)) else (none))) else ((some (([(wrap64 (48 + (Int.tmod x0 10))) % 256] : List Int) : List Int)).bind fun y111 => (if (strOfNums y111).size + x4.size ≤ 9223372036854775807 then (spec_l01Dec.l0 k (wrap64 (Int.tdiv x0 10)) x3 ((strOfNums y111) ++ x4)) else (none))))
def spec_l01Dec.f (k : Nat) (a0 : Int) : Option (ByteArray) := if a0 = 0 then (some (⟨#[48]⟩ : ByteArray)) else (spec_l01Dec.l0 k a0 (decide (a0 < 0)) (⟨#[]⟩ : ByteArray))
theorem spec_l01Dec.mono_l : ∀ k, (∀ y0 y1 y2, LeO (spec_l01Dec.l0 k y0 y1 y2) (spec_l01Dec.l0 (k + 1) y0 y1 y2))
 | 0 => fun _ _ _ r h => by simp [spec_l01Dec.l0] at h
 | k + 1 => by
  have ih0 := spec_l01Dec.mono_l k
  ·
   intro y0 y1 y2
   unfold spec_l01Dec.l0
   repeat' first
   | (with_reducible exact ih0 _ _ _)
   | (with_reducible exact LeO.refl _)
   | (with_reducible exact LeO.none _)
   | (with_reducible refine LeO.ite ?_ ?_)
   | (with_reducible refine LeO.bind ?_ (fun _ => ?_))
   | exact ih0 _ _ _
   | exact LeO.none _
   | refine LeO.ite ?_ ?_
   | refine LeO.bind ?_ (fun _ => ?_)
theorem spec_l01Dec.mono : ∀ a0 k, LeO (spec_l01Dec.f k a0) (spec_l01Dec.f (k + 1) a0) := by
 intro a0 k
 have ih0 := spec_l01Dec.mono_l k
 unfold spec_l01Dec.f
 repeat' first
   | (with_reducible exact ih0 _ _ _)
   | (with_reducible exact LeO.refl _)
   | (with_reducible exact LeO.none _)
   | (with_reducible refine LeO.ite ?_ ?_)
   | (with_reducible refine LeO.bind ?_ (fun _ => ?_))
   | exact ih0 _ _ _
   | exact LeO.none _
   | refine LeO.ite ?_ ?_
   | refine LeO.bind ?_ (fun _ => ?_)
set_option maxHeartbeats 8000000 in
set_option maxRecDepth 100000 in
theorem spec_l01Dec.calls (k : Nat) (a0 : Int) (r : ByteArray) (w : World) (h : spec_l01Dec.f k a0 = some r) :
  Calls Tryd.prog 55 #[.int .i64 a0] w fun e w' => e = .returned (.string r) ∧ Below w.heap.size w w' := by
 have HB := Aside0.mk (Below.refl w.heap.size w)
 have H : (if a0 = 0 then (some (⟨#[48]⟩ : ByteArray)) else (spec_l01Dec.l0 k a0 (decide (a0 < 0)) (⟨#[]⟩ : ByteArray))) = some r := h
 clear h
 by_cases c2 : a0 = 0
 ·
  rw [if_pos c2] at H
  have c2b0 : (a0 == 0) = true := beq_iff_eq.mpr c2
  have c2b1 : (a0 != 0) = false := bne_eq_false_iff_eq.mpr c2
  clear c2
  obtain rfl := Option.some.inj H
  go_enter Tryd.func55, Tryd.ntmps55
  go_wp2
  go_ret
  exact ⟨by first | rfl | (simp [errW_none, errW_some] <;> rfl) | (simp [*, errW_none, errW_some] <;> rfl), by repeat (first | (with_reducible first | exact HB.out | apply below_alloc | apply pw_below_drewN | apply below_drew1) | exact HB.out)⟩
 ·
  rw [if_neg c2] at H
  have c2b0 : (a0 == 0) = false := beq_eq_false_iff_ne.mpr c2
  have c2b1 : (a0 != 0) = true := bne_iff_ne.mpr c2
  have H' := Aside0.mk H
  clear H
  go_enter Tryd.func55, Tryd.ntmps55
  go_wp2
  go_loopg [0, 4] k (fun kq v0 v4 w' => ∃ (x0_1 : Int) (x4_1 : ByteArray), v0 = .int .i64 x0_1 ∧ v4 = .string x4_1 ∧ Aside0 (spec_l01Dec.l0 kq x0_1 (decide (a0 < 0)) x4_1 = some r) ∧ Aside0 (kq ≤ k) ∧ Aside0 (Below w.heap.size w w'))
  case atStart => exact ⟨(a0), ((⟨#[]⟩ : ByteArray)), zb3_2, zb3_2, H', ⟨Nat.le_refl _⟩, ⟨by repeat (first | (with_reducible first | exact HB.out | apply below_alloc | apply pw_below_drewN | apply below_drew1) | exact HB.out)⟩⟩
  case round =>
   clear H'
   try clear c2
   try clear c2b0
   try clear c2b1
   try clear p2
   obtain ⟨x0_1, x4_1, rfl, rfl, HA, HK1, HB⟩ := hrel
   cases gk with
   | zero => exact absurd HA.out (by simp [spec_l01Dec.l0])
   | succ k1 =>
    have H := HA.out
    clear HA
    simp only [spec_l01Dec.l0] at H
    by_cases c3 : x0_1 = 0
    ·
     rw [if_pos c3] at H
     have c3b0 : (x0_1 == 0) = true := beq_iff_eq.mpr c3
     have c3b1 : (x0_1 != 0) = false := bne_eq_false_iff_eq.mpr c3
     clear c3
     by_cases c4 : (decide (a0 < 0)) = true
     ·
      rw [if_pos c4] at H
      have c4b0 : (decide (a0 < 0)) = true := c4
      try have c4b9 := of_decide_eq_true c4b0
      clear c4
      by_cases c5 : 1 + x4_1.size ≤ 9223372036854775807
      ·
       rw [if_pos c5] at H
       have c5b0 := eq_true c5
       have c5b1 : decide (1 + x4_1.size ≤ 9223372036854775807) = true := decide_eq_true c5
       try have c5b2 : (9223372036854775807 < 1 + x4_1.size) = False := eq_false (Nat.not_lt.2 c5)
       obtain rfl := Option.some.inj H
       go_wp2
       all_goals try (exfalso; omega)
       go_ret
       exact ⟨by first | rfl | (simp [errW_none, errW_some] <;> rfl) | (simp [*, errW_none, errW_some] <;> rfl), by repeat (first | (with_reducible first | exact HB.out | apply below_alloc | apply pw_below_drewN | apply below_drew1) | exact HB.out)⟩
      ·
       rw [if_neg c5] at H
       exact absurd H (by simp)
     ·
      rw [if_neg c4] at H
      have c4b0 : (decide (a0 < 0)) = false := by simpa using c4
      try have c4b9 := of_decide_eq_false c4b0
      clear c4
      obtain rfl := Option.some.inj H
      go_wp2
      all_goals try (exfalso; omega)
      go_ret
      exact ⟨by first | rfl | (simp [errW_none, errW_some] <;> rfl) | (simp [*, errW_none, errW_some] <;> rfl), by repeat (first | (with_reducible first | exact HB.out | apply below_alloc | apply pw_below_drewN | apply below_drew1) | exact HB.out)⟩
    ·
     rw [if_neg c3] at H
     have c3b0 : (x0_1 == 0) = false := beq_eq_false_iff_ne.mpr c3
     have c3b1 : (x0_1 != 0) = true := bne_iff_ne.mpr c3
     by_cases c6 : (Int.tmod x0_1 10) < 0
     ·
      rw [if_pos c6] at H
      have c6b0 : decide ((Int.tmod x0_1 10) < 0) = true := decide_eq_true c6
      clear c6
      obtain ⟨y108, hy108⟩ : ∃ y_ : List Int, y_ = (([(wrap64 (48 + (wrap64 (-(Int.tmod x0_1 10))))) % 256] : List Int)) := ⟨_, rfl⟩
      replace H : (if (strOfNums y108).size + x4_1.size ≤ 9223372036854775807 then (spec_l01Dec.l0 k1 (wrap64 (Int.tdiv x0_1 10)) (decide (a0 < 0)) ((strOfNums y108) ++ x4_1)) else (none)) = some r := by first | (rw [hy108]; with_reducible exact H) | (have H2_ := (Option.bind_some _ _).symm.trans H; rw [hy108]; with_reducible exact H2_) | (have H2_ := (Option.bind_some _ _).symm.trans H; with_reducible exact H2_) | with_reducible exact H | (rw [hy108]; exact H) | exact H
      have Ny108 := Aside0.mk hy108
      clear hy108
      by_cases c7 : (strOfNums y108).size + x4_1.size ≤ 9223372036854775807
      ·
       rw [if_pos c7] at H
       have c7b0 := eq_true c7
       have c7b1 : decide ((strOfNums y108).size + x4_1.size ≤ 9223372036854775807) = true := decide_eq_true c7
       try have c7b2 : (9223372036854775807 < (strOfNums y108).size + x4_1.size) = False := eq_false (Nat.not_lt.2 c7)
       have H' := Aside0.mk H
       clear H
       go_wp2_with (first | ((with_reducible refine gate_dst (N := 21) rfl ?_); refine Kd.R_lit (Kd.int .u8) _ 5 ?hg (N := 21) ?hd (xs := ([(wrap64 (48 + (wrap64 (-(Int.tmod x0_1 10))))) % 256] : List Int)) (inner := [.int .u8 ((wrap64 (48 + (wrap64 (-(Int.tmod x0_1 10))))) % 256)]) (ok := fun _ => True) (okp := fun _ => True) ?hr ?hp (fun _ hk => hk) trivial (Below.refl _ _) (Nat.le_refl _) (by simp) ?_; (case hd => rfl); (case hg => rfl); (case hr => first | (go_simp; done) | (go_simp; rfl)); (case hp => exact (Reps.one (show Kd.M (Kd.int .u8) _ _ _ ((wrap64 (48 + (wrap64 (-(Int.tmod x0_1 10))))) % 256) [.int .u8 ((wrap64 (48 + (wrap64 (-(Int.tmod x0_1 10))))) % 256)] from rfl) (Reps.none _ _))); intro v109 w8 ho9 hb hg_ hnew_; clear hg_ hnew_; (first | rw [← Ny108.out] at ho9 | (simp only [Int.reduceToNat] at ho9; rw [← Ny108.out] at ho9)); have n0_ := Aside0.mk (Kd.R_lower ho9 (below_size zb0_2)); have n1_ := Aside0.mk (below_step zb0_2 hb); clear HB; have HO110 := n0_; have HB := n1_; clear n0_ n1_; clear hb ho9; have hcv10 := own_string (P := Tryd.prog) Tryd.underlying61 Tryd.underlying5 Tryd.underlying9 (Kd.own_of_R HO110.out)))
       go_roundg k1
       case measure => have := HK1.out; omega
       case rel => exact ⟨(wrap64 (Int.tdiv x0_1 10)), ((strOfNums y108) ++ x4_1), zb3_2, zb3_2, H', ⟨by have := HK1.out; omega⟩, ⟨by repeat (first | (with_reducible first | exact HB.out | apply below_alloc | apply pw_below_drewN | apply below_drew1) | exact HB.out)⟩⟩
      ·
       rw [if_neg c7] at H
       exact absurd H (by simp)
     ·
      rw [if_neg c6] at H
      have c6b0 : decide ((Int.tmod x0_1 10) < 0) = false := decide_eq_false c6
      clear c6
      obtain ⟨y111, hy111⟩ : ∃ y_ : List Int, y_ = (([(wrap64 (48 + (Int.tmod x0_1 10))) % 256] : List Int)) := ⟨_, rfl⟩
      replace H : (if (strOfNums y111).size + x4_1.size ≤ 9223372036854775807 then (spec_l01Dec.l0 k1 (wrap64 (Int.tdiv x0_1 10)) (decide (a0 < 0)) ((strOfNums y111) ++ x4_1)) else (none)) = some r := by first | (rw [hy111]; with_reducible exact H) | (have H2_ := (Option.bind_some _ _).symm.trans H; rw [hy111]; with_reducible exact H2_) | (have H2_ := (Option.bind_some _ _).symm.trans H; with_reducible exact H2_) | with_reducible exact H | (rw [hy111]; exact H) | exact H
      have Ny111 := Aside0.mk hy111
      clear hy111
      by_cases c11 : (strOfNums y111).size + x4_1.size ≤ 9223372036854775807
      ·
       rw [if_pos c11] at H
       have c11b0 := eq_true c11
       have c11b1 : decide ((strOfNums y111).size + x4_1.size ≤ 9223372036854775807) = true := decide_eq_true c11
       try have c11b2 : (9223372036854775807 < (strOfNums y111).size + x4_1.size) = False := eq_false (Nat.not_lt.2 c11)
       have H' := Aside0.mk H
       clear H
       go_wp2_with (first | ((with_reducible refine gate_dst (N := 21) rfl ?_); refine Kd.R_lit (Kd.int .u8) _ 5 ?hg (N := 21) ?hd (xs := ([(wrap64 (48 + (Int.tmod x0_1 10))) % 256] : List Int)) (inner := [.int .u8 ((wrap64 (48 + (Int.tmod x0_1 10))) % 256)]) (ok := fun _ => True) (okp := fun _ => True) ?hr ?hp (fun _ hk => hk) trivial (Below.refl _ _) (Nat.le_refl _) (by simp) ?_; (case hd => rfl); (case hg => rfl); (case hr => first | (go_simp; done) | (go_simp; rfl)); (case hp => exact (Reps.one (show Kd.M (Kd.int .u8) _ _ _ ((wrap64 (48 + (Int.tmod x0_1 10))) % 256) [.int .u8 ((wrap64 (48 + (Int.tmod x0_1 10))) % 256)] from rfl) (Reps.none _ _))); intro v112 w12 ho13 hb hg_ hnew_; clear hg_ hnew_; (first | rw [← Ny111.out] at ho13 | (simp only [Int.reduceToNat] at ho13; rw [← Ny111.out] at ho13)); have n0_ := Aside0.mk (Kd.R_lower ho13 (below_size zb0_2)); have n1_ := Aside0.mk (below_step zb0_2 hb); clear HB; have HO113 := n0_; have HB := n1_; clear n0_ n1_; clear hb ho13; have hcv14 := own_string (P := Tryd.prog) Tryd.underlying61 Tryd.underlying5 Tryd.underlying9 (Kd.own_of_R HO113.out)))
       go_roundg k1
       case measure => have := HK1.out; omega
       case rel => exact ⟨(wrap64 (Int.tdiv x0_1 10)), ((strOfNums y111) ++ x4_1), zb3_2, zb3_2, H', ⟨by have := HK1.out; omega⟩, ⟨by repeat (first | (with_reducible first | exact HB.out | apply below_alloc | apply pw_below_drewN | apply below_drew1) | exact HB.out)⟩⟩
      ·
       rw [if_neg c11] at H
       exact absurd H (by simp)

/-! ### spec_HeadText: function 23 -/
def spec_HeadText.f (k : Nat) (a0_0 : ByteArray) (a0_1 : ByteArray) (a0_2 : Int) : Option (ByteArray) := (spec_l05Head.f k a0_0 a0_1 a0_2).bind fun t115 => (if t115 = true then (if 14 + a0_0.size ≤ 9223372036854775807 then (if ((⟨#[60, 115, 116, 114, 101, 97, 109, 32, 102, 114, 111, 109, 61, 39]⟩ : ByteArray) ++ a0_0).size + 6 ≤ 9223372036854775807 then (if (((⟨#[60, 115, 116, 114, 101, 97, 109, 32, 102, 114, 111, 109, 61, 39]⟩ : ByteArray) ++ a0_0) ++ (⟨#[39, 32, 116, 111, 61, 39]⟩ : ByteArray)).size + a0_1.size ≤ 9223372036854775807 then (if ((((⟨#[60, 115, 116, 114, 101, 97, 109, 32, 102, 114, 111, 109, 61, 39]⟩ : ByteArray) ++ a0_0) ++ (⟨#[39, 32, 116, 111, 61, 39]⟩ : ByteArray)) ++ a0_1).size + 6 ≤ 9223372036854775807 then ((spec_l01Dec.f k a0_2).bind fun t116 => (if (((((⟨#[60, 115, 116, 114, 101, 97, 109, 32, 102, 114, 111, 109, 61, 39]⟩ : ByteArray) ++ a0_0) ++ (⟨#[39, 32, 116, 111, 61, 39]⟩ : ByteArray)) ++ a0_1) ++ (⟨#[39, 32, 105, 100, 61, 39]⟩ : ByteArray)).size + t116.size ≤ 9223372036854775807 then (if ((((((⟨#[60, 115, 116, 114, 101, 97, 109, 32, 102, 114, 111, 109, 61, 39]⟩ : ByteArray) ++ a0_0) ++ (⟨#[39, 32, 116, 111, 61, 39]⟩ : ByteArray)) ++ a0_1) ++ (⟨#[39, 32, 105, 100, 61, 39]⟩ : ByteArray)) ++ t116).size + 2 ≤ 9223372036854775807 then (some (((((((⟨#[60, 115, 116, 114, 101, 97, 109, 32, 102, 114, 111, 109, 61, 39]⟩ : ByteArray) ++ a0_0) ++ (⟨#[39, 32, 116, 111, 61, 39]⟩ : ByteArray)) ++ a0_1) ++ (⟨#[39, 32, 105, 100, 61, 39]⟩ : ByteArray)) ++ t116) ++ (⟨#[39, 62]⟩ : ByteArray))) else (none)) else (none))) else (none)) else (none)) else (none)) else (none)) else (some (⟨#[]⟩ : ByteArray)))
theorem spec_HeadText.mono : ∀ a0 a1 a2 k, LeO (spec_HeadText.f k a0 a1 a2) (spec_HeadText.f (k + 1) a0 a1 a2) := by
 intro a0 a1 a2 k
 unfold spec_HeadText.f
 repeat' first
   | (with_reducible exact spec_l01Dec.mono _ _)
   | (with_reducible exact spec_l05Head.mono _ _ _ _)
   | (with_reducible exact LeO.refl _)
   | (with_reducible exact LeO.none _)
   | (with_reducible refine LeO.ite ?_ ?_)
   | (with_reducible refine LeO.bind ?_ (fun _ => ?_))
   | exact spec_l01Dec.mono _ _
   | exact spec_l05Head.mono _ _ _ _
   | exact LeO.none _
   | refine LeO.ite ?_ ?_
   | refine LeO.bind ?_ (fun _ => ?_)
def spec_HeadText.T3 : Bool × List (List Nat × List Nat) := (true, [([], []), ([0], [0]), ([1], [1]), ([2], [2]), ([], []), ([4], [4]), ([3, 5], [3, 5]), ([6], [6]), ([], []), ([8], [8]), ([9], [9]), ([7, 10], [7, 10]), ([11], [11]), ([12, 10, 0, 1, 2, 3, 4, 5, 6, 7, 8, 9, 10, 11, 12], [12])])
def spec_HeadText.B3 : List Nat := [0, 1, 3, 7, 0, 16, 63, 127, 0, 256, 768, 2047, 4095, 8191]
theorem spec_HeadText.tab3 : rtab .any (opsOf Tryd.f23 3) = spec_HeadText.T3 := by kernel_rfl
theorem spec_HeadText.bits3 : waitsOk spec_HeadText.T3.2 spec_HeadText.B3 = true := by kernel_rfl
set_option maxHeartbeats 8000000 in
set_option maxRecDepth 100000 in
theorem spec_HeadText.calls (k : Nat) (a0_0 : ByteArray) (a0_1 : ByteArray) (a0_2 : Int) (r : ByteArray) (w : World) (h : spec_HeadText.f k a0_0 a0_1 a0_2 = some r) :
  Calls Tryd.prog 23 #[.agg #[.string a0_0, .string a0_1, .int .i64 a0_2]] w fun e w' => e = .returned (.string r) ∧ Below w.heap.size w w' := by
 have hu28 := Tryd.underlying28
 have HB := Aside0.mk (Below.refl w.heap.size w)
 have H : ((spec_l05Head.f k a0_0 a0_1 a0_2).bind fun t115 => (if t115 = true then (if 14 + a0_0.size ≤ 9223372036854775807 then (if ((⟨#[60, 115, 116, 114, 101, 97, 109, 32, 102, 114, 111, 109, 61, 39]⟩ : ByteArray) ++ a0_0).size + 6 ≤ 9223372036854775807 then (if (((⟨#[60, 115, 116, 114, 101, 97, 109, 32, 102, 114, 111, 109, 61, 39]⟩ : ByteArray) ++ a0_0) ++ (⟨#[39, 32, 116, 111, 61, 39]⟩ : ByteArray)).size + a0_1.size ≤ 9223372036854775807 then (if ((((⟨#[60, 115, 116, 114, 101, 97, 109, 32, 102, 114, 111, 109, 61, 39]⟩ : ByteArray) ++ a0_0) ++ (⟨#[39, 32, 116, 111, 61, 39]⟩ : ByteArray)) ++ a0_1).size + 6 ≤ 9223372036854775807 then ((spec_l01Dec.f k a0_2).bind fun t116 => (if (((((⟨#[60, 115, 116, 114, 101, 97, 109, 32, 102, 114, 111, 109, 61, 39]⟩ : ByteArray) ++ a0_0) ++ (⟨#[39, 32, 116, 111, 61, 39]⟩ : ByteArray)) ++ a0_1) ++ (⟨#[39, 32, 105, 100, 61, 39]⟩ : ByteArray)).size + t116.size ≤ 9223372036854775807 then (if ((((((⟨#[60, 115, 116, 114, 101, 97, 109, 32, 102, 114, 111, 109, 61, 39]⟩ : ByteArray) ++ a0_0) ++ (⟨#[39, 32, 116, 111, 61, 39]⟩ : ByteArray)) ++ a0_1) ++ (⟨#[39, 32, 105, 100, 61, 39]⟩ : ByteArray)) ++ t116).size + 2 ≤ 9223372036854775807 then (some (((((((⟨#[60, 115, 116, 114, 101, 97, 109, 32, 102, 114, 111, 109, 61, 39]⟩ : ByteArray) ++ a0_0) ++ (⟨#[39, 32, 116, 111, 61, 39]⟩ : ByteArray)) ++ a0_1) ++ (⟨#[39, 32, 105, 100, 61, 39]⟩ : ByteArray)) ++ t116) ++ (⟨#[39, 62]⟩ : ByteArray))) else (none)) else (none))) else (none)) else (none)) else (none)) else (none)) else (some (⟨#[]⟩ : ByteArray)))) = some r := h
 clear h
 replace H := Option.bind_eq_some_iff.mp H
 obtain ⟨t115, A20, H⟩ := H
 replace H : (if t115 = true then (if 14 + a0_0.size ≤ 9223372036854775807 then (if ((⟨#[60, 115, 116, 114, 101, 97, 109, 32, 102, 114, 111, 109, 61, 39]⟩ : ByteArray) ++ a0_0).size + 6 ≤ 9223372036854775807 then (if (((⟨#[60, 115, 116, 114, 101, 97, 109, 32, 102, 114, 111, 109, 61, 39]⟩ : ByteArray) ++ a0_0) ++ (⟨#[39, 32, 116, 111, 61, 39]⟩ : ByteArray)).size + a0_1.size ≤ 9223372036854775807 then (if ((((⟨#[60, 115, 116, 114, 101, 97, 109, 32, 102, 114, 111, 109, 61, 39]⟩ : ByteArray) ++ a0_0) ++ (⟨#[39, 32, 116, 111, 61, 39]⟩ : ByteArray)) ++ a0_1).size + 6 ≤ 9223372036854775807 then ((spec_l01Dec.f k a0_2).bind fun t116 => (if (((((⟨#[60, 115, 116, 114, 101, 97, 109, 32, 102, 114, 111, 109, 61, 39]⟩ : ByteArray) ++ a0_0) ++ (⟨#[39, 32, 116, 111, 61, 39]⟩ : ByteArray)) ++ a0_1) ++ (⟨#[39, 32, 105, 100, 61, 39]⟩ : ByteArray)).size + t116.size ≤ 9223372036854775807 then (if ((((((⟨#[60, 115, 116, 114, 101, 97, 109, 32, 102, 114, 111, 109, 61, 39]⟩ : ByteArray) ++ a0_0) ++ (⟨#[39, 32, 116, 111, 61, 39]⟩ : ByteArray)) ++ a0_1) ++ (⟨#[39, 32, 105, 100, 61, 39]⟩ : ByteArray)) ++ t116).size + 2 ≤ 9223372036854775807 then (some (((((((⟨#[60, 115, 116, 114, 101, 97, 109, 32, 102, 114, 111, 109, 61, 39]⟩ : ByteArray) ++ a0_0) ++ (⟨#[39, 32, 116, 111, 61, 39]⟩ : ByteArray)) ++ a0_1) ++ (⟨#[39, 32, 105, 100, 61, 39]⟩ : ByteArray)) ++ t116) ++ (⟨#[39, 62]⟩ : ByteArray))) else (none)) else (none))) else (none)) else (none)) else (none)) else (none)) else (some (⟨#[]⟩ : ByteArray))) = some r := H
 have A2 := Aside0.mk A20
 clear A20
 by_cases c3 : t115 = true
 ·
  subst c3
  have H1 : (if 14 + a0_0.size ≤ 9223372036854775807 then (if ((⟨#[60, 115, 116, 114, 101, 97, 109, 32, 102, 114, 111, 109, 61, 39]⟩ : ByteArray) ++ a0_0).size + 6 ≤ 9223372036854775807 then (if (((⟨#[60, 115, 116, 114, 101, 97, 109, 32, 102, 114, 111, 109, 61, 39]⟩ : ByteArray) ++ a0_0) ++ (⟨#[39, 32, 116, 111, 61, 39]⟩ : ByteArray)).size + a0_1.size ≤ 9223372036854775807 then (if ((((⟨#[60, 115, 116, 114, 101, 97, 109, 32, 102, 114, 111, 109, 61, 39]⟩ : ByteArray) ++ a0_0) ++ (⟨#[39, 32, 116, 111, 61, 39]⟩ : ByteArray)) ++ a0_1).size + 6 ≤ 9223372036854775807 then ((spec_l01Dec.f k a0_2).bind fun t116 => (if (((((⟨#[60, 115, 116, 114, 101, 97, 109, 32, 102, 114, 111, 109, 61, 39]⟩ : ByteArray) ++ a0_0) ++ (⟨#[39, 32, 116, 111, 61, 39]⟩ : ByteArray)) ++ a0_1) ++ (⟨#[39, 32, 105, 100, 61, 39]⟩ : ByteArray)).size + t116.size ≤ 9223372036854775807 then (if ((((((⟨#[60, 115, 116, 114, 101, 97, 109, 32, 102, 114, 111, 109, 61, 39]⟩ : ByteArray) ++ a0_0) ++ (⟨#[39, 32, 116, 111, 61, 39]⟩ : ByteArray)) ++ a0_1) ++ (⟨#[39, 32, 105, 100, 61, 39]⟩ : ByteArray)) ++ t116).size + 2 ≤ 9223372036854775807 then (some (((((((⟨#[60, 115, 116, 114, 101, 97, 109, 32, 102, 114, 111, 109, 61, 39]⟩ : ByteArray) ++ a0_0) ++ (⟨#[39, 32, 116, 111, 61, 39]⟩ : ByteArray)) ++ a0_1) ++ (⟨#[39, 32, 105, 100, 61, 39]⟩ : ByteArray)) ++ t116) ++ (⟨#[39, 62]⟩ : ByteArray))) else (none)) else (none))) else (none)) else (none)) else (none)) else (none)) = some r := by rw [if_pos rfl] at H; exact H
  clear H
  have H := H1
  clear H1
  by_cases c4 : 14 + a0_0.size ≤ 9223372036854775807
  ·
   rw [if_pos c4] at H
   have c4b0 := eq_true c4
   have c4b1 : decide (14 + a0_0.size ≤ 9223372036854775807) = true := decide_eq_true c4
   try have c4b2 : (9223372036854775807 < 14 + a0_0.size) = False := eq_false (Nat.not_lt.2 c4)
   by_cases c5 : ((⟨#[60, 115, 116, 114, 101, 97, 109, 32, 102, 114, 111, 109, 61, 39]⟩ : ByteArray) ++ a0_0).size + 6 ≤ 9223372036854775807
   ·
    rw [if_pos c5] at H
    have c5b0 := eq_true c5
    have c5b1 : decide (((⟨#[60, 115, 116, 114, 101, 97, 109, 32, 102, 114, 111, 109, 61, 39]⟩ : ByteArray) ++ a0_0).size + 6 ≤ 9223372036854775807) = true := decide_eq_true c5
    try have c5b2 : (9223372036854775807 < ((⟨#[60, 115, 116, 114, 101, 97, 109, 32, 102, 114, 111, 109, 61, 39]⟩ : ByteArray) ++ a0_0).size + 6) = False := eq_false (Nat.not_lt.2 c5)
    try have c5d : 14 + a0_0.size + 6 ≤ 9223372036854775807 := by have h_ := c5; simp only [ByteArray.size_append] at h_; exact h_
    try have c5d0 := eq_true c5d
    try have c5d1 := decide_eq_true c5d
    try have c5d2 : (9223372036854775807 < 14 + a0_0.size + 6) = False := eq_false (Nat.not_lt.2 c5d)
    by_cases c6 : (((⟨#[60, 115, 116, 114, 101, 97, 109, 32, 102, 114, 111, 109, 61, 39]⟩ : ByteArray) ++ a0_0) ++ (⟨#[39, 32, 116, 111, 61, 39]⟩ : ByteArray)).size + a0_1.size ≤ 9223372036854775807
    ·
     rw [if_pos c6] at H
     have c6b0 := eq_true c6
     have c6b1 : decide ((((⟨#[60, 115, 116, 114, 101, 97, 109, 32, 102, 114, 111, 109, 61, 39]⟩ : ByteArray) ++ a0_0) ++ (⟨#[39, 32, 116, 111, 61, 39]⟩ : ByteArray)).size + a0_1.size ≤ 9223372036854775807) = true := decide_eq_true c6
     try have c6b2 : (9223372036854775807 < (((⟨#[60, 115, 116, 114, 101, 97, 109, 32, 102, 114, 111, 109, 61, 39]⟩ : ByteArray) ++ a0_0) ++ (⟨#[39, 32, 116, 111, 61, 39]⟩ : ByteArray)).size + a0_1.size) = False := eq_false (Nat.not_lt.2 c6)
     try have c6d : 14 + a0_0.size + 6 + a0_1.size ≤ 9223372036854775807 := by have h_ := c6; simp only [ByteArray.size_append] at h_; exact h_
     try have c6d0 := eq_true c6d
     try have c6d1 := decide_eq_true c6d
     try have c6d2 : (9223372036854775807 < 14 + a0_0.size + 6 + a0_1.size) = False := eq_false (Nat.not_lt.2 c6d)
     by_cases c7 : ((((⟨#[60, 115, 116, 114, 101, 97, 109, 32, 102, 114, 111, 109, 61, 39]⟩ : ByteArray) ++ a0_0) ++ (⟨#[39, 32, 116, 111, 61, 39]⟩ : ByteArray)) ++ a0_1).size + 6 ≤ 9223372036854775807
     ·
      rw [if_pos c7] at H
      have c7b0 := eq_true c7
      have c7b1 : decide (((((⟨#[60, 115, 116, 114, 101, 97, 109, 32, 102, 114, 111, 109, 61, 39]⟩ : ByteArray) ++ a0_0) ++ (⟨#[39, 32, 116, 111, 61, 39]⟩ : ByteArray)) ++ a0_1).size + 6 ≤ 9223372036854775807) = true := decide_eq_true c7
      try have c7b2 : (9223372036854775807 < ((((⟨#[60, 115, 116, 114, 101, 97, 109, 32, 102, 114, 111, 109, 61, 39]⟩ : ByteArray) ++ a0_0) ++ (⟨#[39, 32, 116, 111, 61, 39]⟩ : ByteArray)) ++ a0_1).size + 6) = False := eq_false (Nat.not_lt.2 c7)
      try have c7d : 14 + a0_0.size + 6 + a0_1.size + 6 ≤ 9223372036854775807 := by have h_ := c7; simp only [ByteArray.size_append] at h_; exact h_
      try have c7d0 := eq_true c7d
      try have c7d1 := decide_eq_true c7d
      try have c7d2 : (9223372036854775807 < 14 + a0_0.size + 6 + a0_1.size + 6) = False := eq_false (Nat.not_lt.2 c7d)
      replace H := Option.bind_eq_some_iff.mp H
      obtain ⟨t116, A80, H⟩ := H
      replace H : (if (((((⟨#[60, 115, 116, 114, 101, 97, 109, 32, 102, 114, 111, 109, 61, 39]⟩ : ByteArray) ++ a0_0) ++ (⟨#[39, 32, 116, 111, 61, 39]⟩ : ByteArray)) ++ a0_1) ++ (⟨#[39, 32, 105, 100, 61, 39]⟩ : ByteArray)).size + t116.size ≤ 9223372036854775807 then (if ((((((⟨#[60, 115, 116, 114, 101, 97, 109, 32, 102, 114, 111, 109, 61, 39]⟩ : ByteArray) ++ a0_0) ++ (⟨#[39, 32, 116, 111, 61, 39]⟩ : ByteArray)) ++ a0_1) ++ (⟨#[39, 32, 105, 100, 61, 39]⟩ : ByteArray)) ++ t116).size + 2 ≤ 9223372036854775807 then (some (((((((⟨#[60, 115, 116, 114, 101, 97, 109, 32, 102, 114, 111, 109, 61, 39]⟩ : ByteArray) ++ a0_0) ++ (⟨#[39, 32, 116, 111, 61, 39]⟩ : ByteArray)) ++ a0_1) ++ (⟨#[39, 32, 105, 100, 61, 39]⟩ : ByteArray)) ++ t116) ++ (⟨#[39, 62]⟩ : ByteArray))) else (none)) else (none)) = some r := H
      have A8 := Aside0.mk A80
      clear A80
      by_cases c9 : (((((⟨#[60, 115, 116, 114, 101, 97, 109, 32, 102, 114, 111, 109, 61, 39]⟩ : ByteArray) ++ a0_0) ++ (⟨#[39, 32, 116, 111, 61, 39]⟩ : ByteArray)) ++ a0_1) ++ (⟨#[39, 32, 105, 100, 61, 39]⟩ : ByteArray)).size + t116.size ≤ 9223372036854775807
      ·
       rw [if_pos c9] at H
       have c9b0 := eq_true c9
       have c9b1 : decide ((((((⟨#[60, 115, 116, 114, 101, 97, 109, 32, 102, 114, 111, 109, 61, 39]⟩ : ByteArray) ++ a0_0) ++ (⟨#[39, 32, 116, 111, 61, 39]⟩ : ByteArray)) ++ a0_1) ++ (⟨#[39, 32, 105, 100, 61, 39]⟩ : ByteArray)).size + t116.size ≤ 9223372036854775807) = true := decide_eq_true c9
       try have c9b2 : (9223372036854775807 < (((((⟨#[60, 115, 116, 114, 101, 97, 109, 32, 102, 114, 111, 109, 61, 39]⟩ : ByteArray) ++ a0_0) ++ (⟨#[39, 32, 116, 111, 61, 39]⟩ : ByteArray)) ++ a0_1) ++ (⟨#[39, 32, 105, 100, 61, 39]⟩ : ByteArray)).size + t116.size) = False := eq_false (Nat.not_lt.2 c9)
       try have c9d : 14 + a0_0.size + 6 + a0_1.size + 6 + t116.size ≤ 9223372036854775807 := by have h_ := c9; simp only [ByteArray.size_append] at h_; exact h_
       try have c9d0 := eq_true c9d
       try have c9d1 := decide_eq_true c9d
       try have c9d2 : (9223372036854775807 < 14 + a0_0.size + 6 + a0_1.size + 6 + t116.size) = False := eq_false (Nat.not_lt.2 c9d)
       by_cases c10 : ((((((⟨#[60, 115, 116, 114, 101, 97, 109, 32, 102, 114, 111, 109, 61, 39]⟩ : ByteArray) ++ a0_0) ++ (⟨#[39, 32, 116, 111, 61, 39]⟩ : ByteArray)) ++ a0_1) ++ (⟨#[39, 32, 105, 100, 61, 39]⟩ : ByteArray)) ++ t116).size + 2 ≤ 9223372036854775807
       ·
        rw [if_pos c10] at H
        have c10b0 := eq_true c10
        have c10b1 : decide (((((((⟨#[60, 115, 116, 114, 101, 97, 109, 32, 102, 114, 111, 109, 61, 39]⟩ : ByteArray) ++ a0_0) ++ (⟨#[39, 32, 116, 111, 61, 39]⟩ : ByteArray)) ++ a0_1) ++ (⟨#[39, 32, 105, 100, 61, 39]⟩ : ByteArray)) ++ t116).size + 2 ≤ 9223372036854775807) = true := decide_eq_true c10
        try have c10b2 : (9223372036854775807 < ((((((⟨#[60, 115, 116, 114, 101, 97, 109, 32, 102, 114, 111, 109, 61, 39]⟩ : ByteArray) ++ a0_0) ++ (⟨#[39, 32, 116, 111, 61, 39]⟩ : ByteArray)) ++ a0_1) ++ (⟨#[39, 32, 105, 100, 61, 39]⟩ : ByteArray)) ++ t116).size + 2) = False := eq_false (Nat.not_lt.2 c10)
        try have c10d : 14 + a0_0.size + 6 + a0_1.size + 6 + t116.size + 2 ≤ 9223372036854775807 := by have h_ := c10; simp only [ByteArray.size_append] at h_; exact h_
        try have c10d0 := eq_true c10d
        try have c10d1 := decide_eq_true c10d
        try have c10d2 : (9223372036854775807 < 14 + a0_0.size + 6 + a0_1.size + 6 + t116.size + 2) = False := eq_false (Nat.not_lt.2 c10d)
        obtain rfl := Option.some.inj H
        go_enter Tryd.func23, Tryd.ntmps23
        try go_wp2_with (first | ((with_reducible refine gate_dst (N := 1) rfl ?_); refine box_event ?hg (N := 1) ?hd (cs := #[.string a0_0, .string a0_1, .int .i64 a0_2]) (t := 28) ?hr ?_; (case hd => rfl); (case hg => rfl); (case hr => first | (go_simp; done) | (go_simp; rfl)); intro gb114 hg w11 hbox hb; have n0_ := Aside0.mk (below_step zb0_2 hb); have n1_ := Aside0.mk (hbox); have n2_ := Aside0.mk ((zb1_2 : w.heap.size ≤ gb114)); have n3_ := Aside0.mk ((zb1_2 : w.heap.size ≤ gb114)); clear HB; have HB := n0_; have BK114 := n1_; have GW114 := n2_; have GE114 := n3_; clear n0_ n1_ n2_ n3_; clear hb hbox hg; have hcz12_0 := bcq_2 BK114.out 0; have hcz12_1 := bcq_2 BK114.out 1; have hcz12_2 := bcq_2 BK114.out 2; have hfz12_0 := blk_frozen BK114.out 0; have hfz12_1 := blk_frozen BK114.out 1; have hfz12_2 := blk_frozen BK114.out 2) | ((with_reducible refine gate_callee (f := 42) rfl ?_); refine goesL_ (some 4) rfl rfl Tryd.func42 (by kernel_rfl) rfl #[.agg #[.string a0_0, .string a0_1, .int .i64 a0_2]] rfl zb2_2 ?_; (with_reducible refine (spec_l05Head.calls k a0_0 a0_1 a0_2 true _ A2.out).mono ?_); rintro e w13 ⟨rfl, hb⟩; refine ⟨_, rfl, ?_⟩; have n0_ := Aside0.mk (blk_below (g := gb114) (o := .cells #[.string a0_0, .string a0_1, .int .i64 a0_2] 28 (0, 0)) zb4_2 hb); have n1_ := Aside0.mk (below_step zb5_2 hb); clear BK114; clear HB; have BK114 := n0_; have HB := n1_; clear n0_ n1_; (try clear hb); (try clear hb2); (try clear hk); (try clear hi)))
        have n0_ := Aside0.mk (blk_drew BK114.out)
        have n1_ := Aside0.mk (below_drew1 HB.out)
        clear BK114
        clear HB
        have BK114 := n0_
        have HB := n1_
        clear n0_ n1_
        refine start_ (n := 14) (S := fun w' => w'.cell? ⟨gb114, 0, none⟩ = some (.string a0_0) ∧ w'.cell? ⟨gb114, 1, none⟩ = some (.string a0_1) ∧ w'.cell? ⟨gb114, 2, none⟩ = some (.int .i64 a0_2)) (ds := []) zm0_2 (by kernel_rfl) rfl rfl ⟨(blk_cell BK114.out 0).trans rfl, (blk_cell BK114.out 1).trans rfl, (blk_cell BK114.out 2).trans rfl⟩ (fun hHeld => ?_); refine with_tabW spec_HeadText.tab3 spec_HeadText.bits3 (fun HT_ HW_ => ?_)
        generalize w13.drew = w14 at BK114 HB hHeld ⊢
        refine zp_2 0 (some 6) zm1_2 HT_ ?_
        refine zp_2 4 (some 10) zm2_2 HT_ ?_
        refine zp_2 8 (some 14) zm3_2 HT_ ?_
        refine take_ (i := 1) (N := some 7) (v := ?_) (a' := ?_) zm4_2 rfl rfl (take_ofW HT_.out HW_.out (by kernel_rfl)) (fun _ _ _ h => h) (Or.inl ⟨by rfl, ?_⟩) hHeld ?_ ?_
        rotate_left
        ·
         rintro w' ⟨s0, s1, s2⟩
         go_simp
         with_reducible rfl
        rotate_left
        ·
         simp only [Act.put, List.setIfInBounds_toArray, List.set_cons_zero, List.set_cons_succ, i64_w, i32_w]
         rfl
        refine zp_2 2 (some 8) zm5_2 HT_ ?_
        refine zp_2 3 (some 9) zm6_2 HT_ ?_
        refine take_ (i := 5) (N := some 11) (v := ?_) (a' := ?_) zm7_2 rfl rfl (take_ofW HT_.out HW_.out (by kernel_rfl)) (fun _ _ _ h => h) (Or.inl ⟨by rfl, ?_⟩) hHeld ?_ ?_
        rotate_left
        ·
         rintro w' ⟨s0, s1, s2⟩
         go_simp
         with_reducible rfl
        rotate_left
        ·
         simp only [Act.put, List.setIfInBounds_toArray, List.set_cons_zero, List.set_cons_succ, i64_w, i32_w]
         rfl
        refine zp_2 6 (some 12) zm8_2 HT_ ?_
        refine zp_2 7 (some 13) zm9_2 HT_ ?_
        refine take_ (i := 9) (N := some 15) (v := ?_) (a' := ?_) zm10_2 rfl rfl (take_ofW HT_.out HW_.out (by kernel_rfl)) (fun _ _ _ h => h) (Or.inl ⟨by rfl, ?_⟩) hHeld ?_ ?_
        rotate_left
        ·
         rintro w' ⟨s0, s1, s2⟩
         go_simp
         with_reducible rfl
        rotate_left
        ·
         simp only [Act.put, List.setIfInBounds_toArray, List.set_cons_zero, List.set_cons_succ, i64_w, i32_w]
         rfl
        refine one_ (i := 10) (N := some 16) zm11_2 rfl rfl (one_of HT_.out (by kernel_rfl)) (by decide) (fun K hK => ?_)
        refine goes_ Tryd.func55 (by kernel_rfl) rfl #[.int .i64 a0_2] (by rfl) rfl rfl zb2_2 ?_
        with_reducible refine (spec_l01Dec.calls k a0_2 t116 _ A8.out).mono ?_
        rintro e w15 ⟨rfl, hb⟩
        refine ⟨_, rfl, ?_⟩
        have n0_ := Aside0.mk (blk_below (g := gb114) (o := .cells #[.string a0_0, .string a0_1, .int .i64 a0_2] 28 (0, 0)) zb4_2 hb)
        have n1_ := Aside0.mk (below_step zb5_2 hb)
        clear BK114
        clear HB
        have BK114 := n0_
        have HB := n1_
        clear n0_ n1_
        (try clear hb)
        (try clear hb2)
        (try clear hk)
        (try clear hi)
        refine hK.out _ _ ⟨(blk_cell BK114.out 0).trans rfl, (blk_cell BK114.out 1).trans rfl, (blk_cell BK114.out 2).trans rfl⟩ (fun hHeld => ?_)
        clear hK K
        refine norm_ (a' := ?_) ?_ ?_
        rotate_left
        ·
         show Act.put _ (some 16) _ = _
         simp only [Act.put, List.setIfInBounds_toArray, List.set_cons_zero, List.set_cons_succ, i64_w, i32_w]
         rfl
        refine zp_2 11 (some 17) zm12_2 HT_ ?_
        refine zp_2 12 (some 18) zm13_2 HT_ ?_
        refine zp_2 13 (some 2) zm14_2 HT_ ?_
        refine done_ (done_of HT_.out (by kernel_rfl)) ?_
        try go_wp2
        go_ret
        exact ⟨by first | rfl | (simp [errW_none, errW_some] <;> rfl) | (simp [*, errW_none, errW_some] <;> rfl), by repeat (first | (with_reducible first | exact HB.out | apply below_alloc | apply pw_below_drewN | apply below_drew1 | refine below_set ?_ GE114.out) | exact HB.out)⟩
       ·
        rw [if_neg c10] at H
        exact absurd H (by simp)
      ·
       rw [if_neg c9] at H
       exact absurd H (by simp)
     ·
      rw [if_neg c7] at H
      exact absurd H (by simp)
    ·
     rw [if_neg c6] at H
     exact absurd H (by simp)
   ·
    rw [if_neg c5] at H
    exact absurd H (by simp)
  ·
   rw [if_neg c4] at H
   exact absurd H (by simp)
 ·
  replace c3 := Bool.eq_false_iff.mpr c3
  subst c3
  have H1 : (some (⟨#[]⟩ : ByteArray)) = some r := by rw [if_neg (show ¬ (false = true) by decide)] at H; exact H
  clear H
  have H := H1
  clear H1
  obtain rfl := Option.some.inj H
  go_enter Tryd.func23, Tryd.ntmps23
  go_wp2_with (first | ((with_reducible refine gate_dst (N := 1) rfl ?_); refine box_event ?hg (N := 1) ?hd (cs := #[.string a0_0, .string a0_1, .int .i64 a0_2]) (t := 28) ?hr ?_; (case hd => rfl); (case hg => rfl); (case hr => first | (go_simp; done) | (go_simp; rfl)); intro gb114 hg w16 hbox hb; have n0_ := Aside0.mk (below_step zb0_2 hb); have n1_ := Aside0.mk (hbox); have n2_ := Aside0.mk ((zb1_2 : w.heap.size ≤ gb114)); have n3_ := Aside0.mk ((zb1_2 : w.heap.size ≤ gb114)); clear HB; have HB := n0_; have BK114 := n1_; have GW114 := n2_; have GE114 := n3_; clear n0_ n1_ n2_ n3_; clear hb hbox hg; have hcz17_0 := bcq_2 BK114.out 0; have hcz17_1 := bcq_2 BK114.out 1; have hcz17_2 := bcq_2 BK114.out 2; have hfz17_0 := blk_frozen BK114.out 0; have hfz17_1 := blk_frozen BK114.out 1; have hfz17_2 := blk_frozen BK114.out 2) | ((with_reducible refine gate_callee (f := 42) rfl ?_); refine goesL_ (some 4) rfl rfl Tryd.func42 (by kernel_rfl) rfl #[.agg #[.string a0_0, .string a0_1, .int .i64 a0_2]] rfl zb2_2 ?_; (with_reducible refine (spec_l05Head.calls k a0_0 a0_1 a0_2 false _ A2.out).mono ?_); rintro e w18 ⟨rfl, hb⟩; refine ⟨_, rfl, ?_⟩; have n0_ := Aside0.mk (blk_below (g := gb114) (o := .cells #[.string a0_0, .string a0_1, .int .i64 a0_2] 28 (0, 0)) zb4_2 hb); have n1_ := Aside0.mk (below_step zb5_2 hb); clear BK114; clear HB; have BK114 := n0_; have HB := n1_; clear n0_ n1_; (try clear hb); (try clear hb2); (try clear hk); (try clear hi)))
  go_ret
  exact ⟨by first | rfl | (simp [errW_none, errW_some] <;> rfl) | (simp [*, errW_none, errW_some] <;> rfl), by repeat (first | (with_reducible first | exact HB.out | apply below_alloc | apply pw_below_drewN | apply below_drew1 | refine below_set ?_ GE114.out) | exact HB.out)⟩

/-! ### laws_toHead: function 24 -/
def laws_toHead.f (a0_0 : ByteArray) (a0_1 : ByteArray) (a0_2 : Int) : Option (ByteArray × ByteArray × Int) := some (a0_0, a0_1, a0_2)
set_option maxHeartbeats 8000000 in
set_option maxRecDepth 100000 in
theorem laws_toHead.calls (a0_0 : ByteArray) (a0_1 : ByteArray) (a0_2 : Int) (r1 : ByteArray) (r2 : ByteArray) (r3 : Int) (w : World) (h : laws_toHead.f a0_0 a0_1 a0_2 = some (r1, r2, r3)) :
  Calls Tryd.prog 24 #[.agg #[.string a0_0, .string a0_1, .int .i64 a0_2]] w fun e w' => e = .returned (.agg #[.string r1, .string r2, .int .i64 r3]) ∧ Below w.heap.size w w' := by
 have hu23 := Tryd.underlying23
 have hu28 := Tryd.underlying28
 have HB := Aside0.mk (Below.refl w.heap.size w)
 have H : (some (a0_0, a0_1, a0_2)) = some (r1, r2, r3) := h
 clear h
 simp only [Option.some.injEq, Prod.mk.injEq] at H
 obtain ⟨rfl, rfl, rfl⟩ := H
 go_enter Tryd.func24, Tryd.ntmps24
 go_wp2_with (first | ((with_reducible refine gate_dst (N := 1) rfl ?_); refine box_event ?hg (N := 1) ?hd (cs := #[.string a0_0, .string a0_1, .int .i64 a0_2]) (t := 23) ?hr ?_; (case hd => rfl); (case hg => rfl); (case hr => first | (go_simp; done) | (go_simp; rfl)); intro gb117 hg w2 hbox hb; have n0_ := Aside0.mk (below_step zb0_2 hb); have n1_ := Aside0.mk (hbox); have n2_ := Aside0.mk ((zb1_2 : w.heap.size ≤ gb117)); have n3_ := Aside0.mk ((zb1_2 : w.heap.size ≤ gb117)); clear HB; have HB := n0_; have BK117 := n1_; have GW117 := n2_; have GE117 := n3_; clear n0_ n1_ n2_ n3_; clear hb hbox hg) | ((with_reducible refine gate_dst (N := 2) rfl ?_); refine box_event ?hg (N := 2) ?hd (cs := #[.string (⟨#[]⟩ : ByteArray), .string (⟨#[]⟩ : ByteArray), .int .i64 0]) (t := 28) ?hr ?_; (case hd => rfl); (case hg => rfl); (case hr => first | (go_simp; done) | (go_simp; rfl)); intro gb118 hg w3 hbox hb; have n0_ := Aside0.mk (blk_below (g := gb117) (o := .cells #[.string a0_0, .string a0_1, .int .i64 a0_2] 23 (0, 0)) zb6_2 hb); have n1_ := Aside0.mk (below_step zb7_2 hb); have n2_ := Aside0.mk (hbox); have n3_ := Aside0.mk ((by rw [hg]; exact (below_size zb7_2) : w.heap.size ≤ gb118)); have n4_ := Aside0.mk ((by rw [hg]; exact (below_size zb7_2) : w.heap.size ≤ gb118)); have n5_ := Aside0.mk ((by rw [hg]; exact Nat.ne_of_lt (blk_lt (g := gb117) (o := .cells #[.string a0_0, .string a0_1, .int .i64 a0_2] 23 (0, 0)) zb6_2) : gb117 ≠ gb118)); have n6_ := Aside0.mk ((by rw [hg]; exact Nat.ne_of_gt (blk_lt (g := gb117) (o := .cells #[.string a0_0, .string a0_1, .int .i64 a0_2] 23 (0, 0)) zb6_2) : gb118 ≠ gb117)); clear BK117; clear HB; have BK117 := n0_; have HB := n1_; have BK118 := n2_; have GW118 := n3_; have GE118 := n4_; have NB117_118 := n5_; have NB118_117 := n6_; clear n0_ n1_ n2_ n3_ n4_ n5_ n6_; clear hb hbox hg) | ((with_reducible refine gate_dst (N := 3) rfl ?_); refine box_event ?hg (N := 3) ?hd (cs := #[.string (⟨#[]⟩ : ByteArray), .string (⟨#[]⟩ : ByteArray), .int .i64 0]) (t := 28) ?hr ?_; (case hd => rfl); (case hg => rfl); (case hr => first | (go_simp; done) | (go_simp; rfl)); intro gb119 hg w4 hbox hb; have n0_ := Aside0.mk (blk_below (g := gb117) (o := .cells #[.string a0_0, .string a0_1, .int .i64 a0_2] 23 (0, 0)) zb6_2 hb); have n1_ := Aside0.mk (blk_below (g := gb118) (o := .cells #[.string (⟨#[]⟩ : ByteArray), .string (⟨#[]⟩ : ByteArray), .int .i64 0] 28 (0, 0)) zb8_2 hb); have n2_ := Aside0.mk (below_step zb9_2 hb); have n3_ := Aside0.mk (hbox); have n4_ := Aside0.mk ((by rw [hg]; exact (below_size zb9_2) : w.heap.size ≤ gb119)); have n5_ := Aside0.mk ((by rw [hg]; exact (below_size zb9_2) : w.heap.size ≤ gb119)); have n6_ := Aside0.mk ((by rw [hg]; exact Nat.ne_of_lt (blk_lt (g := gb117) (o := .cells #[.string a0_0, .string a0_1, .int .i64 a0_2] 23 (0, 0)) zb6_2) : gb117 ≠ gb119)); have n7_ := Aside0.mk ((by rw [hg]; exact Nat.ne_of_gt (blk_lt (g := gb117) (o := .cells #[.string a0_0, .string a0_1, .int .i64 a0_2] 23 (0, 0)) zb6_2) : gb119 ≠ gb117)); have n8_ := Aside0.mk ((by rw [hg]; exact Nat.ne_of_lt (blk_lt (g := gb118) (o := .cells #[.string (⟨#[]⟩ : ByteArray), .string (⟨#[]⟩ : ByteArray), .int .i64 0] 28 (0, 0)) zb8_2) : gb118 ≠ gb119)); have n9_ := Aside0.mk ((by rw [hg]; exact Nat.ne_of_gt (blk_lt (g := gb118) (o := .cells #[.string (⟨#[]⟩ : ByteArray), .string (⟨#[]⟩ : ByteArray), .int .i64 0] 28 (0, 0)) zb8_2) : gb119 ≠ gb118)); clear BK117; clear BK118; clear HB; have BK117 := n0_; have BK118 := n1_; have HB := n2_; have BK119 := n3_; have GW119 := n4_; have GE119 := n5_; have NB117_119 := n6_; have NB119_117 := n7_; have NB118_119 := n8_; have NB119_118 := n9_; clear n0_ n1_ n2_ n3_ n4_ n5_ n6_ n7_ n8_ n9_; clear hb hbox hg; have hnb5 := NB117_118.out; have hnc5 := NB118_117.out; have hnb6 := NB117_119.out; have hnc6 := NB119_117.out; have hcz7_0 := bcq_2 BK117.out 0; have hcz7_1 := bcq_2 BK117.out 1; have hcz7_2 := bcq_2 BK117.out 2; have hfz7_0 := blk_frozen BK117.out 0; have hfz7_1 := blk_frozen BK117.out 1; have hfz7_2 := blk_frozen BK117.out 2; have hnb8 := NB119_118.out; have hnc8 := NB118_119.out; have hcz9_0 := bcq_2 BK119.out 0; have hcz9_1 := bcq_2 BK119.out 1; have hcz9_2 := bcq_2 BK119.out 2; have hfz9_0 := blk_frozen BK119.out 0; have hfz9_1 := blk_frozen BK119.out 1; have hfz9_2 := blk_frozen BK119.out 2; have hcz10_0 := bcq_2 BK118.out 0; have hcz10_1 := bcq_2 BK118.out 1; have hcz10_2 := bcq_2 BK118.out 2; have hfz10_0 := blk_frozen BK118.out 0; have hfz10_1 := blk_frozen BK118.out 1; have hfz10_2 := blk_frozen BK118.out 2))
 refine bodyPost_ret (results_cell_row rfl _ _ gb118 28 #[.string a0_0, .string a0_1, .int .i64 a0_2] (0, 0) _ rfl (by (with_reducible repeat (first | refine blk_drewN ?_ _ | refine blk_drew ?_ | refine blk_alloc ?_ _)); refine blk_put (cs := #[.string a0_0, .string a0_1, .int .i64 0]) ?_ 2 _ rfl; (with_reducible repeat (first | refine blk_drewN ?_ _ | refine blk_drew ?_ | refine blk_alloc ?_ _)); refine blk_put (cs := #[.string a0_0, .string (⟨#[]⟩ : ByteArray), .int .i64 0]) ?_ 1 _ rfl; (with_reducible repeat (first | refine blk_drewN ?_ _ | refine blk_drew ?_ | refine blk_alloc ?_ _)); refine blk_put (cs := #[.string (⟨#[]⟩ : ByteArray), .string (⟨#[]⟩ : ByteArray), .int .i64 0]) ?_ 0 _ rfl; (with_reducible repeat (first | refine blk_drewN ?_ _ | refine blk_drew ?_ | refine blk_alloc ?_ _)); refine blk_far ?_ NB118_119.out _; (with_reducible repeat (first | refine blk_drewN ?_ _ | refine blk_drew ?_ | refine blk_alloc ?_ _)); refine blk_far ?_ NB118_119.out _; (with_reducible repeat (first | refine blk_drewN ?_ _ | refine blk_drew ?_ | refine blk_alloc ?_ _)); refine blk_far ?_ NB118_119.out _; (with_reducible repeat (first | refine blk_drewN ?_ _ | refine blk_drew ?_ | refine blk_alloc ?_ _)); exact BK118.out) Tryd.underlying28 rfl (by kernel_rfl)) rfl ?_
 exact ⟨by first | rfl | (simp [errW_none, errW_some] <;> rfl) | (simp [*, errW_none, errW_some] <;> rfl), by repeat (first | (with_reducible first | exact HB.out | apply below_alloc | apply pw_below_drewN | apply below_drew1 | refine below_set ?_ GE117.out | refine below_set ?_ GE118.out | refine below_set ?_ GE119.out) | exact HB.out)⟩

/-! ### strings_Cut: function 82: by the library's contract (it reads bytealg.MaxLen) -/
def strings_Cut.f (a0 : ByteArray) (a1 : ByteArray) : Option (ByteArray × ByteArray × Bool) := if a0.size < 4294967281 then some (⟨(Lib.cut a0.data.toList a1.data.toList).1.toArray⟩, ⟨(Lib.cut a0.data.toList a1.data.toList).2.1.toArray⟩, (Lib.cut a0.data.toList a1.data.toList).2.2) else none
theorem strings_Cut.calls (a0 : ByteArray) (a1 : ByteArray) (r0 : ByteArray) (r1 : ByteArray) (r2 : Bool) (w : World) (h : strings_Cut.f a0 a1 = some (r0, r1, r2)) (hmx : MaxIs w) :
  Calls Tryd.prog 82 #[.string a0, .string a1] w fun e w' => e = .returned (.tuple #[.string r0, .string r1, .bool r2]) ∧ Drawn0 w w' := by
 unfold strings_Cut.f at h
 by_cases h0 : a0.size < 4294967281
 ·
  rw [if_pos h0] at h
  have hr := Option.some.inj h
  obtain ⟨m, hm⟩ := hmx.num
  have hcon := Any.strings_Cut Tryd.lays145 a0 a1 m w h0 hm
  change Calls Tryd.prog 82 _ _ (fun e w' => e = .returned (.tuple #[.string ⟨(Lib.cut a0.data.toList a1.data.toList).1.toArray⟩, .string ⟨(Lib.cut a0.data.toList a1.data.toList).2.1.toArray⟩, .bool (Lib.cut a0.data.toList a1.data.toList).2.2]) ∧ ∃ n, w' = w.drewN n) at hcon
  simp only [Prod.mk.injEq] at hr
  obtain ⟨e0, e1, e2⟩ := hr
  rw [e0, e1, e2] at hcon
  refine hcon.mono ?_
  rintro e w' ⟨rfl, hn⟩
  exact ⟨rfl, ⟨hn⟩⟩
 ·
  rw [if_neg h0] at h
  exact absurd h (by simp)

/-! ### strings_Trim: function 98: by the library's contract, at an ASCII set of signs -/
def strings_Trim.f (a0 : ByteArray) (a1 : ByteArray) : Option (ByteArray) := if a0.size ≤ 9223372036854775807 then (if a1.size < 4294967281 then (if (a1.data.toList.all fun b => decide (b.toNat < 128)) = true then some ⟨(Lib.trimS a0.data.toList a1.data.toList).toArray⟩ else none) else none) else none
theorem strings_Trim.calls (a0 : ByteArray) (a1 : ByteArray) (r : ByteArray) (w : World) (h : strings_Trim.f a0 a1 = some r) :
  Calls Tryd.prog 98 #[.string a0, .string a1] w fun e w' => e = .returned (.string r) ∧ Below w.heap.size w w' := by
 unfold strings_Trim.f at h
 by_cases h0 : a0.size ≤ 9223372036854775807
 ·
  by_cases h1 : a1.size < 4294967281
  ·
   by_cases h2 : (a1.data.toList.all fun b => decide (b.toNat < 128)) = true
   ·
    rw [if_pos h0, if_pos h1, if_pos h2] at h
    have hr := Option.some.inj h
    have hcon := Any.strings_Trim_laid Tryd.lays160 (by kernel_rfl) a0 a1 w h0 h1 (fun j b hj => by
     have := List.all_eq_true.1 h2 b (List.mem_of_getElem? hj)
     exact of_decide_eq_true this)
    change Calls Tryd.prog 98 _ _ (fun e w' => e = .returned (.string ⟨(Lib.trimS a0.data.toList a1.data.toList).toArray⟩) ∧ Below w.heap.size w w') at hcon
    rw [hr] at hcon
    exact hcon
   ·
    rw [if_pos h0, if_pos h1, if_neg h2] at h
    exact absurd h (by simp)
  ·
   rw [if_pos h0, if_neg h1] at h
   exact absurd h (by simp)
 ·
  rw [if_neg h0] at h
  exact absurd h (by simp)

/-! ### impl_only: function 97 -/
def impl_only.f (a0 : ByteArray) (a1 : ByteArray) : Option (Bool) := (strings_Trim.f a0 a1).bind fun t120 => (some (t120.toList == ([] : List UInt8)))
set_option maxHeartbeats 8000000 in
set_option maxRecDepth 100000 in
theorem impl_only.calls (a0 : ByteArray) (a1 : ByteArray) (r : Bool) (w : World) (h : impl_only.f a0 a1 = some r) :
  Calls Tryd.prog 97 #[.string a0, .string a1] w fun e w' => e = .returned (.bool r) ∧ Below w.heap.size w w' := by
 have HB := Aside0.mk (Below.refl w.heap.size w)
 have H : ((strings_Trim.f a0 a1).bind fun t120 => (some (t120.toList == ([] : List UInt8)))) = some r := h
 clear h
 replace H := Option.bind_eq_some_iff.mp H
 obtain ⟨t120, A30, H⟩ := H
 replace H : (some (t120.toList == ([] : List UInt8))) = some r := H
 have A3 := Aside0.mk A30
 clear A30
 obtain rfl := Option.some.inj H
 go_enter Tryd.func97, Tryd.ntmps97
 go_wp2_with (first | ((with_reducible refine gate_callee (f := 98) rfl ?_); refine goesL_ (some 7) rfl rfl Tryd.func98 (by kernel_rfl) rfl #[.string a0, .string a1] rfl zb2_2 ?_; (with_reducible refine (strings_Trim.calls a0 a1 t120 _ A3.out).mono ?_); rintro e w4 ⟨rfl, hb⟩; refine ⟨_, rfl, ?_⟩; have n0_ := Aside0.mk (below_step zb0_2 hb); clear HB; have HB := n0_; clear n0_; (try clear hb); (try clear hb2); (try clear hk); (try clear hi)))
 go_ret
 exact ⟨by first | rfl | (simp [errW_none, errW_some] <;> rfl) | (simp [*, errW_none, errW_some] <;> rfl), by repeat (first | (with_reducible first | exact HB.out | apply below_alloc | apply pw_below_drewN | apply below_drew1) | exact HB.out)⟩

/-! ### impl_isLocal: function 91 -/
def impl_isLocal.f (a0 : ByteArray) : Option (Bool) := if (a0.size : Int) ≤ 30 then ((impl_only.f a0 (⟨#[97, 98, 99, 100, 101, 102, 103, 104, 105, 106, 107, 108, 109, 110, 111, 112, 113, 114, 115, 116, 117, 118, 119, 120, 121, 122, 48, 49, 50, 51, 52, 53, 54, 55, 56, 57, 46, 95, 45]⟩ : ByteArray)).bind fun t121 => (some t121)) else (some false)
set_option maxHeartbeats 8000000 in
set_option maxRecDepth 100000 in
theorem impl_isLocal.calls (a0 : ByteArray) (r : Bool) (w : World) (h : impl_isLocal.f a0 = some r) :
  Calls Tryd.prog 91 #[.string a0] w fun e w' => e = .returned (.bool r) ∧ Below w.heap.size w w' := by
 have HB := Aside0.mk (Below.refl w.heap.size w)
 have H : (if (a0.size : Int) ≤ 30 then ((impl_only.f a0 (⟨#[97, 98, 99, 100, 101, 102, 103, 104, 105, 106, 107, 108, 109, 110, 111, 112, 113, 114, 115, 116, 117, 118, 119, 120, 121, 122, 48, 49, 50, 51, 52, 53, 54, 55, 56, 57, 46, 95, 45]⟩ : ByteArray)).bind fun t121 => (some t121)) else (some false)) = some r := h
 clear h
 by_cases c2 : (a0.size : Int) ≤ 30
 ·
  rw [if_pos c2] at H
  have c2b0 : decide ((a0.size : Int) ≤ 30) = true := decide_eq_true c2
  have c2b1 : decide (a0.size ≤ 30) = true := decide_eq_true (by omega)
  clear c2
  replace H := Option.bind_eq_some_iff.mp H
  obtain ⟨t121, A30, H⟩ := H
  replace H : (some t121) = some r := H
  have A3 := Aside0.mk A30
  clear A30
  obtain rfl := Option.some.inj H
  go_enter Tryd.func91, Tryd.ntmps91
  go_wp2_with (first | (go_at_call 97; (with_reducible refine (impl_only.calls a0 (⟨#[97, 98, 99, 100, 101, 102, 103, 104, 105, 106, 107, 108, 109, 110, 111, 112, 113, 114, 115, 116, 117, 118, 119, 120, 121, 122, 48, 49, 50, 51, 52, 53, 54, 55, 56, 57, 46, 95, 45]⟩ : ByteArray) t121 _ A3.out).mono ?_); rintro e w4 ⟨rfl, hb⟩; have n0_ := Aside0.mk (below_step zb0_2 hb); clear HB; have HB := n0_; clear n0_; (try clear hb); (try clear hb2); (try clear hk); (try clear hi)))
  go_ret
  exact ⟨by first | rfl | (simp [errW_none, errW_some] <;> rfl) | (simp [*, errW_none, errW_some] <;> rfl), by repeat (first | (with_reducible first | exact HB.out | apply below_alloc | apply pw_below_drewN | apply below_drew1) | exact HB.out)⟩
 ·
  rw [if_neg c2] at H
  have c2b0 : decide ((a0.size : Int) ≤ 30) = false := decide_eq_false c2
  have c2b1 : decide (a0.size ≤ 30) = false := decide_eq_false (by omega)
  clear c2
  obtain rfl := Option.some.inj H
  go_enter Tryd.func91, Tryd.ntmps91
  go_wp2
  go_ret
  exact ⟨by first | rfl | (simp [errW_none, errW_some] <;> rfl) | (simp [*, errW_none, errW_some] <;> rfl), by repeat (first | (with_reducible first | exact HB.out | apply below_alloc | apply pw_below_drewN | apply below_drew1) | exact HB.out)⟩

/-! ### strings_Contains: function 43: by the library's contract (it reads bytealg.MaxLen) -/
def strings_Contains.f (a0 : ByteArray) (a1 : ByteArray) : Option (Bool) := if a0.size < 4294967281 then some (Lib.contains a0.data.toList a1.data.toList) else none
theorem strings_Contains.calls (a0 : ByteArray) (a1 : ByteArray) (r : Bool) (w : World) (h : strings_Contains.f a0 a1 = some r) (hmx : MaxIs w) :
  Calls Tryd.prog 43 #[.string a0, .string a1] w fun e w' => e = .returned (.bool r) ∧ Drawn0 w w' := by
 unfold strings_Contains.f at h
 by_cases h0 : a0.size < 4294967281
 ·
  rw [if_pos h0] at h
  have hr := Option.some.inj h
  obtain ⟨m, hm⟩ := hmx.num
  have hcon := Any.strings_Contains Tryd.lays144 a0 a1 m w h0 hm
  change Calls Tryd.prog 43 _ _ (fun e w' => e = .returned (.bool (Lib.contains a0.data.toList a1.data.toList)) ∧ w' = w) at hcon
  refine hcon.mono ?_
  rintro e w' ⟨rfl, rfl⟩
  exact ⟨by rw [hr], Drawn0.refl _⟩
 ·
  rw [if_neg h0] at h
  exact absurd h (by simp)

/-! ### impl_in: function 51 -/
def impl_in.f (a0 : Int) (a1 : Int) (a2 : Int) : Option (Bool) := if a0 ≥ a1 then (some (decide (a0 ≤ a2))) else (some false)
set_option maxHeartbeats 8000000 in
set_option maxRecDepth 100000 in
theorem impl_in.calls (a0 : Int) (a1 : Int) (a2 : Int) (r : Bool) (w : World) (h : impl_in.f a0 a1 a2 = some r) :
  Calls Tryd.prog 51 #[.int .i64 a0, .int .i64 a1, .int .i64 a2] w fun e w' => e = .returned (.bool r) ∧ Drawn0 w w' := by
 have H : (if a0 ≥ a1 then (some (decide (a0 ≤ a2))) else (some false)) = some r := h
 clear h
 by_cases c4 : a0 ≥ a1
 ·
  rw [if_pos c4] at H
  have c4b0 : decide (a1 ≤ a0) = true := decide_eq_true c4
  clear c4
  obtain rfl := Option.some.inj H
  go_enter Tryd.func51, Tryd.ntmps51
  go_wp2
  go_ret
  exact ⟨by first | rfl | (simp; done) | (simp [*]; done), by repeat (first | exact Drawn0.refl _ | apply Drawn0.step)⟩
 ·
  rw [if_neg c4] at H
  have c4b0 : decide (a1 ≤ a0) = false := decide_eq_false c4
  clear c4
  obtain rfl := Option.some.inj H
  go_enter Tryd.func51, Tryd.ntmps51
  go_wp2
  go_ret
  exact ⟨by first | rfl | (simp; done) | (simp [*]; done), by repeat (first | exact Drawn0.refl _ | apply Drawn0.step)⟩

/-! ### impl_isDomainPart: function 92 -/
def impl_isDomainPart.f (a0 : ByteArray) : Option (Bool) := (impl_in.f (a0.size : Int) 1 30).bind fun t122 => (if t122 = true then ((impl_only.f a0 (⟨#[97, 98, 99, 100, 101, 102, 103, 104, 105, 106, 107, 108, 109, 110, 111, 112, 113, 114, 115, 116, 117, 118, 119, 120, 121, 122, 48, 49, 50, 51, 52, 53, 54, 55, 56, 57, 46, 45]⟩ : ByteArray)).bind fun t123 => (if t123 = true then ((strings_Trim.f a0 (⟨#[46, 45]⟩ : ByteArray)).bind fun t124 => (if t124.toList = a0.toList then ((strings_Contains.f a0 (⟨#[46, 46]⟩ : ByteArray)).bind fun t125 => (some (!t125))) else (some false))) else (some false))) else (some false))
set_option maxHeartbeats 8000000 in
set_option maxRecDepth 100000 in
theorem impl_isDomainPart.calls (a0 : ByteArray) (r : Bool) (w : World) (h : impl_isDomainPart.f a0 = some r) (hmx : MaxIs w) :
  Calls Tryd.prog 92 #[.string a0] w fun e w' => e = .returned (.bool r) ∧ Below w.heap.size w w' := by
 have HB := Aside0.mk (Below.refl w.heap.size w)
 have H : ((impl_in.f (a0.size : Int) 1 30).bind fun t122 => (if t122 = true then ((impl_only.f a0 (⟨#[97, 98, 99, 100, 101, 102, 103, 104, 105, 106, 107, 108, 109, 110, 111, 112, 113, 114, 115, 116, 117, 118, 119, 120, 121, 122, 48, 49, 50, 51, 52, 53, 54, 55, 56, 57, 46, 45]⟩ : ByteArray)).bind fun t123 => (if t123 = true then ((strings_Trim.f a0 (⟨#[46, 45]⟩ : ByteArray)).bind fun t124 => (if t124.toList = a0.toList then ((strings_Contains.f a0 (⟨#[46, 46]⟩ : ByteArray)).bind fun t125 => (some (!t125))) else (some false))) else (some false))) else (some false))) = some r := h
 clear h
 replace H := Option.bind_eq_some_iff.mp H
 obtain ⟨t122, A20, H⟩ := H
 replace H : (if t122 = true then ((impl_only.f a0 (⟨#[97, 98, 99, 100, 101, 102, 103, 104, 105, 106, 107, 108, 109, 110, 111, 112, 113, 114, 115, 116, 117, 118, 119, 120, 121, 122, 48, 49, 50, 51, 52, 53, 54, 55, 56, 57, 46, 45]⟩ : ByteArray)).bind fun t123 => (if t123 = true then ((strings_Trim.f a0 (⟨#[46, 45]⟩ : ByteArray)).bind fun t124 => (if t124.toList = a0.toList then ((strings_Contains.f a0 (⟨#[46, 46]⟩ : ByteArray)).bind fun t125 => (some (!t125))) else (some false))) else (some false))) else (some false)) = some r := H
 have A2 := Aside0.mk A20
 clear A20
 by_cases c3 : t122 = true
 ·
  subst c3
  have H1 : ((impl_only.f a0 (⟨#[97, 98, 99, 100, 101, 102, 103, 104, 105, 106, 107, 108, 109, 110, 111, 112, 113, 114, 115, 116, 117, 118, 119, 120, 121, 122, 48, 49, 50, 51, 52, 53, 54, 55, 56, 57, 46, 45]⟩ : ByteArray)).bind fun t123 => (if t123 = true then ((strings_Trim.f a0 (⟨#[46, 45]⟩ : ByteArray)).bind fun t124 => (if t124.toList = a0.toList then ((strings_Contains.f a0 (⟨#[46, 46]⟩ : ByteArray)).bind fun t125 => (some (!t125))) else (some false))) else (some false))) = some r := by rw [if_pos rfl] at H; exact H
  clear H
  have H := H1
  clear H1
  replace H := Option.bind_eq_some_iff.mp H
  obtain ⟨t123, A40, H⟩ := H
  replace H : (if t123 = true then ((strings_Trim.f a0 (⟨#[46, 45]⟩ : ByteArray)).bind fun t124 => (if t124.toList = a0.toList then ((strings_Contains.f a0 (⟨#[46, 46]⟩ : ByteArray)).bind fun t125 => (some (!t125))) else (some false))) else (some false)) = some r := H
  have A4 := Aside0.mk A40
  clear A40
  by_cases c5 : t123 = true
  ·
   subst c5
   have H1 : ((strings_Trim.f a0 (⟨#[46, 45]⟩ : ByteArray)).bind fun t124 => (if t124.toList = a0.toList then ((strings_Contains.f a0 (⟨#[46, 46]⟩ : ByteArray)).bind fun t125 => (some (!t125))) else (some false))) = some r := by rw [if_pos rfl] at H; exact H
   clear H
   have H := H1
   clear H1
   replace H := Option.bind_eq_some_iff.mp H
   obtain ⟨t124, A60, H⟩ := H
   replace H : (if t124.toList = a0.toList then ((strings_Contains.f a0 (⟨#[46, 46]⟩ : ByteArray)).bind fun t125 => (some (!t125))) else (some false)) = some r := H
   have A6 := Aside0.mk A60
   clear A60
   by_cases c7 : t124.toList = a0.toList
   ·
    rw [if_pos c7] at H
    have c7b0 : (t124.toList == a0.toList) = true := beq_iff_eq.mpr c7
    have c7b1 : (t124.toList != a0.toList) = false := bne_eq_false_iff_eq.mpr c7
    clear c7
    replace H := Option.bind_eq_some_iff.mp H
    obtain ⟨t125, A80, H⟩ := H
    replace H : (some (!t125)) = some r := H
    have A8 := Aside0.mk A80
    clear A80
    obtain rfl := Option.some.inj H
    go_enter Tryd.func92, Tryd.ntmps92
    go_wp2_with (first | ((with_reducible refine gate_callee (f := 51) rfl ?_); refine goesL_ (some 5) rfl rfl Tryd.func51 (by kernel_rfl) rfl #[.int .i64 (a0.size : Int), .int .i64 1, .int .i64 30] rfl zb2_2 ?_; (with_reducible refine (impl_in.calls (a0.size : Int) 1 30 true _ A2.out).mono ?_); rintro e w' ⟨rfl, ⟨nd, rfl⟩⟩; refine ⟨_, rfl, ?_⟩) | (go_at_call 97; (with_reducible refine (impl_only.calls a0 (⟨#[97, 98, 99, 100, 101, 102, 103, 104, 105, 106, 107, 108, 109, 110, 111, 112, 113, 114, 115, 116, 117, 118, 119, 120, 121, 122, 48, 49, 50, 51, 52, 53, 54, 55, 56, 57, 46, 45]⟩ : ByteArray) true _ A4.out).mono ?_); rintro e w9 ⟨rfl, hb⟩; have n0_ := Aside0.mk (below_step zb0_2 hb); clear HB; have HB := n0_; clear n0_; (try clear hb); (try clear hb2); (try clear hk); (try clear hi)) | (go_at_call 98; (with_reducible refine (strings_Trim.calls a0 (⟨#[46, 45]⟩ : ByteArray) t124 _ A6.out).mono ?_); rintro e w10 ⟨rfl, hb⟩; have n0_ := Aside0.mk (below_step zb0_2 hb); clear HB; have HB := n0_; clear n0_; (try clear hb); (try clear hb2); (try clear hk); (try clear hi)) | (go_at_call 43; (with_reducible refine (strings_Contains.calls a0 (⟨#[46, 46]⟩ : ByteArray) t125 _ A8.out (by first | exact hmx | exact hmx.below HB.out | exact hmx.below (by repeat (first | (with_reducible first | exact HB.out | apply below_alloc | apply pw_below_drewN | apply below_drew1 | exact Below.refl _ _) | exact HB.out | exact Below.refl _ _)))).mono ?_); rintro e w' ⟨rfl, ⟨nd, rfl⟩⟩))
    go_ret
    exact ⟨by first | rfl | (simp [errW_none, errW_some] <;> rfl) | (simp [*, errW_none, errW_some] <;> rfl), by repeat (first | (with_reducible first | exact HB.out | apply below_alloc | apply pw_below_drewN | apply below_drew1) | exact HB.out)⟩
   ·
    rw [if_neg c7] at H
    have c7b0 : (t124.toList == a0.toList) = false := beq_eq_false_iff_ne.mpr c7
    have c7b1 : (t124.toList != a0.toList) = true := bne_iff_ne.mpr c7
    obtain rfl := Option.some.inj H
    go_enter Tryd.func92, Tryd.ntmps92
    go_wp2_with (first | ((with_reducible refine gate_callee (f := 51) rfl ?_); refine goesL_ (some 5) rfl rfl Tryd.func51 (by kernel_rfl) rfl #[.int .i64 (a0.size : Int), .int .i64 1, .int .i64 30] rfl zb2_2 ?_; (with_reducible refine (impl_in.calls (a0.size : Int) 1 30 true _ A2.out).mono ?_); rintro e w' ⟨rfl, ⟨nd, rfl⟩⟩; refine ⟨_, rfl, ?_⟩) | (go_at_call 97; (with_reducible refine (impl_only.calls a0 (⟨#[97, 98, 99, 100, 101, 102, 103, 104, 105, 106, 107, 108, 109, 110, 111, 112, 113, 114, 115, 116, 117, 118, 119, 120, 121, 122, 48, 49, 50, 51, 52, 53, 54, 55, 56, 57, 46, 45]⟩ : ByteArray) true _ A4.out).mono ?_); rintro e w11 ⟨rfl, hb⟩; have n0_ := Aside0.mk (below_step zb0_2 hb); clear HB; have HB := n0_; clear n0_; (try clear hb); (try clear hb2); (try clear hk); (try clear hi)) | (go_at_call 98; (with_reducible refine (strings_Trim.calls a0 (⟨#[46, 45]⟩ : ByteArray) t124 _ A6.out).mono ?_); rintro e w12 ⟨rfl, hb⟩; have n0_ := Aside0.mk (below_step zb0_2 hb); clear HB; have HB := n0_; clear n0_; (try clear hb); (try clear hb2); (try clear hk); (try clear hi)))
    go_ret
    exact ⟨by first | rfl | (simp [errW_none, errW_some] <;> rfl) | (simp [*, errW_none, errW_some] <;> rfl), by repeat (first | (with_reducible first | exact HB.out | apply below_alloc | apply pw_below_drewN | apply below_drew1) | exact HB.out)⟩
  ·
   replace c5 := Bool.eq_false_iff.mpr c5
   subst c5
   have H1 : (some false) = some r := by rw [if_neg (show ¬ (false = true) by decide)] at H; exact H
   clear H
   have H := H1
   clear H1
   obtain rfl := Option.some.inj H
   go_enter Tryd.func92, Tryd.ntmps92
   go_wp2_with (first | ((with_reducible refine gate_callee (f := 51) rfl ?_); refine goesL_ (some 5) rfl rfl Tryd.func51 (by kernel_rfl) rfl #[.int .i64 (a0.size : Int), .int .i64 1, .int .i64 30] rfl zb2_2 ?_; (with_reducible refine (impl_in.calls (a0.size : Int) 1 30 true _ A2.out).mono ?_); rintro e w' ⟨rfl, ⟨nd, rfl⟩⟩; refine ⟨_, rfl, ?_⟩) | (go_at_call 97; (with_reducible refine (impl_only.calls a0 (⟨#[97, 98, 99, 100, 101, 102, 103, 104, 105, 106, 107, 108, 109, 110, 111, 112, 113, 114, 115, 116, 117, 118, 119, 120, 121, 122, 48, 49, 50, 51, 52, 53, 54, 55, 56, 57, 46, 45]⟩ : ByteArray) false _ A4.out).mono ?_); rintro e w13 ⟨rfl, hb⟩; have n0_ := Aside0.mk (below_step zb0_2 hb); clear HB; have HB := n0_; clear n0_; (try clear hb); (try clear hb2); (try clear hk); (try clear hi)))
   go_ret
   exact ⟨by first | rfl | (simp [errW_none, errW_some] <;> rfl) | (simp [*, errW_none, errW_some] <;> rfl), by repeat (first | (with_reducible first | exact HB.out | apply below_alloc | apply pw_below_drewN | apply below_drew1) | exact HB.out)⟩
 ·
  replace c3 := Bool.eq_false_iff.mpr c3
  subst c3
  have H1 : (some false) = some r := by rw [if_neg (show ¬ (false = true) by decide)] at H; exact H
  clear H
  have H := H1
  clear H1
  obtain rfl := Option.some.inj H
  go_enter Tryd.func92, Tryd.ntmps92
  go_wp2_with (first | ((with_reducible refine gate_callee (f := 51) rfl ?_); refine goesL_ (some 5) rfl rfl Tryd.func51 (by kernel_rfl) rfl #[.int .i64 (a0.size : Int), .int .i64 1, .int .i64 30] rfl zb2_2 ?_; (with_reducible refine (impl_in.calls (a0.size : Int) 1 30 false _ A2.out).mono ?_); rintro e w' ⟨rfl, ⟨nd, rfl⟩⟩; refine ⟨_, rfl, ?_⟩))
  go_ret
  exact ⟨by first | rfl | (simp [errW_none, errW_some] <;> rfl) | (simp [*, errW_none, errW_some] <;> rfl), by repeat (first | (with_reducible first | exact HB.out | apply below_alloc | apply pw_below_drewN | apply below_drew1) | exact HB.out)⟩

/-! ### impl_isPrintable: function 99 -/
def impl_isPrintable.l0 : Nat → ByteArray → Int → Int → Option (Bool)
 | 0, _, _, _ => none
 | k + 1, x0, x5, x6 => if x6 < x5 then (if 0 ≤ x6 then (if x6 < (x0.size : Int) then ((impl_in.f (wrap64 (bt x0 x6)) 32 126).bind fun t126 => (if t126 = true then (impl_isPrintable.l0 k x0 x5 (wrap64 (x6 + 1))) else (some false))) else (none)) else (none)) else (some true)
def impl_isPrintable.f (k : Nat) (a0 : ByteArray) : Option (Bool) := impl_isPrintable.l0 k a0 (a0.size : Int) 0
theorem impl_isPrintable.mono_l : ∀ k, (∀ y0 y1 y2, LeO (impl_isPrintable.l0 k y0 y1 y2) (impl_isPrintable.l0 (k + 1) y0 y1 y2))
 | 0 => fun _ _ _ r h => by simp [impl_isPrintable.l0] at h
 | k + 1 => by
  have ih0 := impl_isPrintable.mono_l k
  ·
   intro y0 y1 y2
   unfold impl_isPrintable.l0
   repeat' first
   | (with_reducible exact ih0 _ _ _)
   | (with_reducible exact LeO.refl _)
   | (with_reducible exact LeO.none _)
   | (with_reducible refine LeO.ite ?_ ?_)
   | (with_reducible refine LeO.bind ?_ (fun _ => ?_))
   | exact ih0 _ _ _
   | exact LeO.none _
   | refine LeO.ite ?_ ?_
   | refine LeO.bind ?_ (fun _ => ?_)
theorem impl_isPrintable.mono : ∀ a0 k, LeO (impl_isPrintable.f k a0) (impl_isPrintable.f (k + 1) a0) := by
 intro a0 k
 have ih0 := impl_isPrintable.mono_l k
 unfold impl_isPrintable.f
 repeat' first
   | (with_reducible exact ih0 _ _ _)
   | (with_reducible exact LeO.refl _)
   | (with_reducible exact LeO.none _)
   | (with_reducible refine LeO.ite ?_ ?_)
   | (with_reducible refine LeO.bind ?_ (fun _ => ?_))
   | exact ih0 _ _ _
   | exact LeO.none _
   | refine LeO.ite ?_ ?_
   | refine LeO.bind ?_ (fun _ => ?_)
set_option maxHeartbeats 8000000 in
set_option maxRecDepth 100000 in
theorem impl_isPrintable.calls (k : Nat) (a0 : ByteArray) (r : Bool) (w : World) (h : impl_isPrintable.f k a0 = some r) :
  Calls Tryd.prog 99 #[.string a0] w fun e w' => e = .returned (.bool r) ∧ Drawn0 w w' := by
 have H : (impl_isPrintable.l0 k a0 (a0.size : Int) 0) = some r := h
 clear h
 have H' := Aside0.mk H
 clear H
 go_enter Tryd.func99, Tryd.ntmps99
 go_wp2
 go_loopg [6] k (fun kq v6 w' => ∃ (x6_1 : Int), v6 = .int .i64 x6_1 ∧ Aside0 (impl_isPrintable.l0 kq a0 (a0.size : Int) x6_1 = some r) ∧ Aside0 (kq ≤ k) ∧ Drawn0 w w')
 case atStart => exact ⟨(0), zb3_2, H', ⟨Nat.le_refl _⟩, by repeat (first | exact Drawn0.refl _ | apply Drawn0.step)⟩
 case round =>
  clear H'
  obtain ⟨x6_1, rfl, HA, HK1, ⟨m1, rfl⟩⟩ := hrel
  cases gk with
  | zero => exact absurd HA.out (by simp [impl_isPrintable.l0])
  | succ k1 =>
   have H := HA.out
   clear HA
   simp only [impl_isPrintable.l0] at H
   by_cases c2 : x6_1 < (a0.size : Int)
   ·
    rw [if_pos c2] at H
    have c2b0 : decide (x6_1 < (a0.size : Int)) = true := decide_eq_true c2
    clear c2
    by_cases c3 : 0 ≤ x6_1
    ·
     rw [if_pos c3] at H
     have c3b0 : decide (0 ≤ x6_1) = true := decide_eq_true c3
     clear c3
     by_cases c4 : x6_1 < (a0.size : Int)
     ·
      rw [if_pos c4] at H
      have c4b0 : decide (x6_1 < (a0.size : Int)) = true := decide_eq_true c4
      clear c4
      replace H := Option.bind_eq_some_iff.mp H
      obtain ⟨t126, A60, H⟩ := H
      replace H : (if t126 = true then (impl_isPrintable.l0 k1 a0 (a0.size : Int) (wrap64 (x6_1 + 1))) else (some false)) = some r := H
      have A6 := Aside0.mk A60
      clear A60
      by_cases c7 : t126 = true
      ·
       subst c7
       have H1 : (impl_isPrintable.l0 k1 a0 (a0.size : Int) (wrap64 (x6_1 + 1))) = some r := by rw [if_pos rfl] at H; exact H
       clear H
       have H := H1
       clear H1
       have H' := Aside0.mk H
       clear H
       have p5 : 0 ≤ (x6_1 : Int) := of_decide_eq_true zb10_2
       have q5 : x6_1 < (a0.size : Int) := of_decide_eq_true zb10_2
       have hx5 := bt_at a0 x6_1
       replace p5 := eq_true p5
       replace q5 := eq_true q5
       go_wp2_with (first | ((with_reducible refine gate_callee (f := 51) rfl ?_); refine goesL_ (some 13) rfl rfl Tryd.func51 (by kernel_rfl) rfl #[.int .i64 (wrap64 (bt a0 x6_1)), .int .i64 32, .int .i64 126] rfl zb2_2 ?_; (with_reducible refine (impl_in.calls (wrap64 (bt a0 x6_1)) 32 126 true _ A6.out).mono ?_); rintro e w' ⟨rfl, ⟨nd, rfl⟩⟩; refine ⟨_, rfl, ?_⟩))
       go_roundg k1
       case measure => have := HK1.out; omega
       case rel => exact ⟨(wrap64 (x6_1 + 1)), zb3_2, H', ⟨by have := HK1.out; omega⟩, by repeat (first | exact Drawn0.refl _ | apply Drawn0.step)⟩
      ·
       replace c7 := Bool.eq_false_iff.mpr c7
       subst c7
       have H1 : (some false) = some r := by rw [if_neg (show ¬ (false = true) by decide)] at H; exact H
       clear H
       have H := H1
       clear H1
       obtain rfl := Option.some.inj H
       have p5 : 0 ≤ (x6_1 : Int) := of_decide_eq_true zb10_2
       have q5 : x6_1 < (a0.size : Int) := of_decide_eq_true zb10_2
       have hx5 := bt_at a0 x6_1
       replace p5 := eq_true p5
       replace q5 := eq_true q5
       go_wp2_with (first | ((with_reducible refine gate_callee (f := 51) rfl ?_); refine goesL_ (some 13) rfl rfl Tryd.func51 (by kernel_rfl) rfl #[.int .i64 (wrap64 (bt a0 x6_1)), .int .i64 32, .int .i64 126] rfl zb2_2 ?_; (with_reducible refine (impl_in.calls (wrap64 (bt a0 x6_1)) 32 126 false _ A6.out).mono ?_); rintro e w' ⟨rfl, ⟨nd, rfl⟩⟩; refine ⟨_, rfl, ?_⟩))
       go_ret
       exact ⟨by first | rfl | (simp; done) | (simp [*]; done), by repeat (first | exact Drawn0.refl _ | apply Drawn0.step)⟩
     ·
      rw [if_neg c4] at H
      exact absurd H (by simp)
    ·
     rw [if_neg c3] at H
     exact absurd H (by simp)
   ·
    rw [if_neg c2] at H
    have c2b0 : decide (x6_1 < (a0.size : Int)) = false := decide_eq_false c2
    clear c2
    obtain rfl := Option.some.inj H
    go_wp2
    go_ret
    exact ⟨by first | rfl | (simp; done) | (simp [*]; done), by repeat (first | exact Drawn0.refl _ | apply Drawn0.step)⟩

/-! ### strings_ContainsAny: function 100: by the library's contract, at ASCII texts -/
def strings_ContainsAny.f (a0 : ByteArray) (a1 : ByteArray) : Option (Bool) := if a0.size < 4294967281 then (if a1.size < 4294967281 then (if (a0.data.toList.all fun b => decide (b.toNat < 128)) = true then (if (a1.data.toList.all fun b => decide (b.toNat < 128)) = true then some (Lib.containsAny a0.data.toList a1.data.toList) else none) else none) else none) else none
theorem strings_ContainsAny.calls (a0 : ByteArray) (a1 : ByteArray) (r : Bool) (w : World) (h : strings_ContainsAny.f a0 a1 = some r) :
  Calls Tryd.prog 100 #[.string a0, .string a1] w fun e w' => e = .returned (.bool r) ∧ Below w.heap.size w w' := by
 unfold strings_ContainsAny.f at h
 by_cases h0 : a0.size < 4294967281
 ·
  by_cases h1 : a1.size < 4294967281
  ·
   by_cases h2 : (a0.data.toList.all fun b => decide (b.toNat < 128)) = true
   ·
    by_cases h3 : (a1.data.toList.all fun b => decide (b.toNat < 128)) = true
    ·
     rw [if_pos h0, if_pos h1, if_pos h2, if_pos h3] at h
     have hr := Option.some.inj h
     have hcon := Any.strings_ContainsAny_laid Tryd.lays150 (by kernel_rfl) a0 a1 w h0 h1 (fun j b hj => of_decide_eq_true (List.all_eq_true.1 h2 b (List.mem_of_getElem? hj))) (fun j b hj => of_decide_eq_true (List.all_eq_true.1 h3 b (List.mem_of_getElem? hj)))
     change Calls Tryd.prog 100 _ _ (fun e w' => e = .returned (.bool (Lib.containsAny a0.data.toList a1.data.toList)) ∧ Below w.heap.size w w') at hcon
     rw [hr] at hcon
     exact hcon
    ·
     rw [if_pos h0, if_pos h1, if_pos h2, if_neg h3] at h
     exact absurd h (by simp)
   ·
    rw [if_pos h0, if_pos h1, if_neg h2] at h
    exact absurd h (by simp)
  ·
   rw [if_pos h0, if_neg h1] at h
   exact absurd h (by simp)
 ·
  rw [if_neg h0] at h
  exact absurd h (by simp)

end Go.Proofs.YtjchggdekbnmnaaDoor.QFnExactHeadText
