-- laid by this session's own runner (wip/print2.py): not a printed file
import Derived.Test.YtohohkgeaclgjaaQFnTwox0
import Derived.Test.YtohohkgeaclgjaaQFnTwox1
namespace Go.Proofs.Ytohohkgeaclgjaa.QFnTwo
open Go.RowKit Go.Proofs.YtohohkgeaclgjaaW.PrintWords Go.Proofs.YtohohkgeaclgjaaW.PrintLast Go.Proofs.YtohohkgeaclgjaaW.PrintMore
attribute [local go_sem] max2_int min2_int max_two min_two max_three min_three max_four min_four   -- for this text's walks alone
set_option linter.unusedVariables false
set_option linter.unusedSimpArgs false

theorem bcq_2 {w : World} {g t : Nat} {cs : Array Value} {v : Value} (h : w.heap[g]? = some (.cells cs t (0, 0))) (j : Nat) (e : cs[j]? = some v := by rfl) : w.cell? ⟨g, j, none⟩ = some v := (blk_cell h j).trans e
theorem zb0_2 {P : Prop} (h : P := by (try simp only [List.map_toArray, List.map_cons, List.map_nil]); first | done | rfl | (simp only [List.length_drop, List.length_take]; rfl)) : P := h
theorem zb1_2 {P : Prop} (h : P := by repeat (first | (with_reducible first | exact HB.out | apply below_alloc | apply pw_below_drewN | apply below_drew1) | exact HB.out)) : P := h
theorem zb2_2 {P : Prop} (h : P := by rw [hg]; exact (below_size (by repeat (first | (with_reducible first | exact HB.out | apply below_alloc | apply pw_below_drewN | apply below_drew1) | exact HB.out)))) : P := h
theorem zb3_2 {P : Prop} (h : P := by (with_reducible repeat (first | refine blk_drewN ?_ _ | refine blk_drew ?_ | refine blk_alloc ?_ _)); exact BK115.out) : P := h
theorem zb4_2 {P : Prop} (h : P := by repeat (first | (with_reducible first | exact HB.out | apply below_alloc | apply pw_below_drewN | apply below_drew1 | refine below_set ?_ GE115.out) | exact HB.out)) : P := h
theorem zb5_2 {P : Prop} (h : P := by rw [hg]; exact (below_size (by repeat (first | (with_reducible first | exact HB.out | apply below_alloc | apply pw_below_drewN | apply below_drew1 | refine below_set ?_ GE115.out) | exact HB.out)))) : P := h
theorem zb6_2 {P : Prop} (h : P := by rw [hg]; exact Nat.ne_of_lt (blk_lt (g := gb115) (o := .cells #[.int .i64 a0_0, .int .i64 a0_1, .int .i64 a0_2, .int .i64 a0_3, .int .i64 a0_4] 24 (0, 0)) (by (with_reducible repeat (first | refine blk_drewN ?_ _ | refine blk_drew ?_ | refine blk_alloc ?_ _)); exact BK115.out))) : P := h
theorem zb7_2 {P : Prop} (h : P := by rw [hg]; exact Nat.ne_of_gt (blk_lt (g := gb115) (o := .cells #[.int .i64 a0_0, .int .i64 a0_1, .int .i64 a0_2, .int .i64 a0_3, .int .i64 a0_4] 24 (0, 0)) (by (with_reducible repeat (first | refine blk_drewN ?_ _ | refine blk_drew ?_ | refine blk_alloc ?_ _)); exact BK115.out))) : P := h
/-! ### impl_HalfHear: function 6: by hand -/
/-- What HalfHear answers. -/
def impl_HalfHear.hear (n o t i f kind m : Int) : Int × Int × Int × Int × Int × (List (S32)) × Int :=
 if kind = 1 then (n, o, t, m, 0, ([] : List (S32)), 0)
 else if kind = 2 then (if o = m then (n, 0, m, i, f, ([] : List (S32)), 0) else (n, o, t, i, f, ([] : List (S32)), 0))
 else if kind = 3 then (n, o, t, (if i = m then 0 else i), (if f = m then 0 else f), ([] : List (S32)), 0)
 else (n, (if o = m then 0 else o), (if t = m then 0 else t), i, f, ([] : List (S32)), 0)
def impl_HalfHear.f (a0_0 : Int) (a0_1 : Int) (a0_2 : Int) (a0_3 : Int) (a0_4 : Int) (a1_0 : Int) (a1_1 : Int) : Option (Int × Int × Int × Int × Int × (List (S32)) × Int) :=
 (impl_HalfRight.f a0_0 a0_1 a0_2 a0_3 a0_4).bind fun b => if b = true then (if (1 ≤ a1_0 ∧ a1_0 ≤ 4) ∧ 1 ≤ a1_1 ∧ a1_1 ≤ 1000000000 then some (impl_HalfHear.hear a0_0 a0_1 a0_2 a0_3 a0_4 a1_0 a1_1) else some (0, 0, 0, 0, 0, ([] : List (S32)), 1)) else some (0, 0, 0, 0, 0, ([] : List (S32)), 1)
theorem impl_HalfHear.and2 {A B : Prop} [Decidable A] [Decidable B] : ((some (decide A)).bind fun x => if x = true then ((some (decide B)).bind fun z => some z) else some false) = some (decide (A ∧ B)) := by
 by_cases c1 : A <;> by_cases c2 : B <;> simp [c1, c2]
theorem impl_HalfHear.sub_dec (k m : Int) : impl_subRight.f k m = some (decide ((1 ≤ k ∧ k ≤ 4) ∧ 1 ≤ m ∧ m ≤ 1000000000)) := by
 unfold impl_subRight.f impl_isId.f
 rw [impl_HalfSay.kind_dec, impl_HalfSay.in_dec]
 exact impl_HalfHear.and2
set_option maxHeartbeats 8000000 in
set_option maxRecDepth 100000 in
theorem impl_HalfHear.clr_eq (g j gs : Nat) (x kd m : Int) (w : World) (h0 : w.cell? ⟨g, j, none⟩ = some (.int .i64 x)) (hz : w.frozen? ⟨g, j, none⟩ = false) (hs : w.heap[gs]? = some (.cells #[.int .i64 kd, .int .i64 m] 32 (0, 0))) (he : (x == m) = true) :
  Calls Try.prog 17 #[.pointer (some ⟨g, j, none⟩), .pointer (some ⟨gs, 0, none⟩)] w fun e w' => e = .returned (.tuple #[]) ∧ w'.heap = (w.setCell ⟨g, j, none⟩ (.int .i64 0)).heap ∧ ∀ B w0, Below B w0 w → B ≤ g → Below B w0 w' := by
 have hu32 := Try.underlying32
 have hc1 := impl_HalfSay.bc hs 1
 have hf1 := blk_frozen hs 1
 clear hs
 go_enter Try.func17, Try.ntmps17
 go_wp2
 go_region
 all_goals go_wp2
 all_goals go_end0
 all_goals exact ⟨rfl, rfl, fun B w0 h hg => by repeat (first | (with_reducible first | exact h | apply below_drew | refine Below.setCell ?_ hg _) | exact h)⟩
set_option maxHeartbeats 8000000 in
set_option maxRecDepth 100000 in
theorem impl_HalfHear.clr_ne (g j gs : Nat) (x kd m : Int) (w : World) (h0 : w.cell? ⟨g, j, none⟩ = some (.int .i64 x)) (hz : w.frozen? ⟨g, j, none⟩ = false) (hs : w.heap[gs]? = some (.cells #[.int .i64 kd, .int .i64 m] 32 (0, 0))) (he : (x == m) = false) :
  Calls Try.prog 17 #[.pointer (some ⟨g, j, none⟩), .pointer (some ⟨gs, 0, none⟩)] w fun e w' => e = .returned (.tuple #[]) ∧ w'.heap = w.heap ∧ ∀ B w0, Below B w0 w → B ≤ g → Below B w0 w' := by
 have hu32 := Try.underlying32
 have hc1 := impl_HalfSay.bc hs 1
 have hf1 := blk_frozen hs 1
 clear hs
 go_enter Try.func17, Try.ntmps17
 go_wp2
 go_region
 all_goals go_wp2
 all_goals go_end0
 all_goals exact ⟨rfl, rfl, fun B w0 h hg => by repeat (first | (with_reducible first | exact h | apply below_drew | refine Below.setCell ?_ hg _) | exact h)⟩
set_option maxHeartbeats 8000000 in
set_option maxRecDepth 100000 in
theorem impl_HalfHear.clr_1 (g gs : Nat) (n o t i f kd m : Int) (w : World) (hb : w.heap[g]? = some (.cells #[.int .i64 n, .int .i64 o, .int .i64 t, .int .i64 i, .int .i64 f] 24 (0, 0))) (hs : w.heap[gs]? = some (.cells #[.int .i64 kd, .int .i64 m] 32 (0, 0))) :
  Calls Try.prog 17 #[.pointer (some ⟨g, 1, none⟩), .pointer (some ⟨gs, 0, none⟩)] w fun e w' => e = .returned (.tuple #[]) ∧ w'.heap[g]? = some (.cells #[.int .i64 n, .int .i64 (if o = m then 0 else o), .int .i64 t, .int .i64 i, .int .i64 f] 24 (0, 0)) ∧ (∀ k_, k_ ≠ g → w'.heap[k_]? = w.heap[k_]?) ∧ ∀ B w0, Below B w0 w → B ≤ g → Below B w0 w' := by
 by_cases he : o = m
 ·
  refine (impl_HalfHear.clr_eq g 1 gs o kd m w (impl_HalfSay.bc hb 1) (blk_frozen hb 1) hs (beq_iff_eq.mpr he)).mono ?_
  rintro e w' ⟨rfl, hh, hB⟩
  refine ⟨rfl, ?_, fun k_ hk => ?_, hB⟩
  ·
   rw [hh, if_pos he]; exact blk_put hb 1 _ rfl
  ·
   rw [hh]; exact Below.heap_setCell _ _ _ k_ hk
 ·
  refine (impl_HalfHear.clr_ne g 1 gs o kd m w (impl_HalfSay.bc hb 1) (blk_frozen hb 1) hs (beq_eq_false_iff_ne.mpr he)).mono ?_
  rintro e w' ⟨rfl, hh, hB⟩
  refine ⟨rfl, ?_, fun k_ hk => ?_, hB⟩
  ·
   rw [hh, if_neg he]; exact hb
  ·
   rw [hh]
set_option maxHeartbeats 8000000 in
set_option maxRecDepth 100000 in
theorem impl_HalfHear.clr_2 (g gs : Nat) (n o t i f kd m : Int) (w : World) (hb : w.heap[g]? = some (.cells #[.int .i64 n, .int .i64 o, .int .i64 t, .int .i64 i, .int .i64 f] 24 (0, 0))) (hs : w.heap[gs]? = some (.cells #[.int .i64 kd, .int .i64 m] 32 (0, 0))) :
  Calls Try.prog 17 #[.pointer (some ⟨g, 2, none⟩), .pointer (some ⟨gs, 0, none⟩)] w fun e w' => e = .returned (.tuple #[]) ∧ w'.heap[g]? = some (.cells #[.int .i64 n, .int .i64 o, .int .i64 (if t = m then 0 else t), .int .i64 i, .int .i64 f] 24 (0, 0)) ∧ (∀ k_, k_ ≠ g → w'.heap[k_]? = w.heap[k_]?) ∧ ∀ B w0, Below B w0 w → B ≤ g → Below B w0 w' := by
 by_cases he : t = m
 ·
  refine (impl_HalfHear.clr_eq g 2 gs t kd m w (impl_HalfSay.bc hb 2) (blk_frozen hb 2) hs (beq_iff_eq.mpr he)).mono ?_
  rintro e w' ⟨rfl, hh, hB⟩
  refine ⟨rfl, ?_, fun k_ hk => ?_, hB⟩
  ·
   rw [hh, if_pos he]; exact blk_put hb 2 _ rfl
  ·
   rw [hh]; exact Below.heap_setCell _ _ _ k_ hk
 ·
  refine (impl_HalfHear.clr_ne g 2 gs t kd m w (impl_HalfSay.bc hb 2) (blk_frozen hb 2) hs (beq_eq_false_iff_ne.mpr he)).mono ?_
  rintro e w' ⟨rfl, hh, hB⟩
  refine ⟨rfl, ?_, fun k_ hk => ?_, hB⟩
  ·
   rw [hh, if_neg he]; exact hb
  ·
   rw [hh]
set_option maxHeartbeats 8000000 in
set_option maxRecDepth 100000 in
theorem impl_HalfHear.clr_3 (g gs : Nat) (n o t i f kd m : Int) (w : World) (hb : w.heap[g]? = some (.cells #[.int .i64 n, .int .i64 o, .int .i64 t, .int .i64 i, .int .i64 f] 24 (0, 0))) (hs : w.heap[gs]? = some (.cells #[.int .i64 kd, .int .i64 m] 32 (0, 0))) :
  Calls Try.prog 17 #[.pointer (some ⟨g, 3, none⟩), .pointer (some ⟨gs, 0, none⟩)] w fun e w' => e = .returned (.tuple #[]) ∧ w'.heap[g]? = some (.cells #[.int .i64 n, .int .i64 o, .int .i64 t, .int .i64 (if i = m then 0 else i), .int .i64 f] 24 (0, 0)) ∧ (∀ k_, k_ ≠ g → w'.heap[k_]? = w.heap[k_]?) ∧ ∀ B w0, Below B w0 w → B ≤ g → Below B w0 w' := by
 by_cases he : i = m
 ·
  refine (impl_HalfHear.clr_eq g 3 gs i kd m w (impl_HalfSay.bc hb 3) (blk_frozen hb 3) hs (beq_iff_eq.mpr he)).mono ?_
  rintro e w' ⟨rfl, hh, hB⟩
  refine ⟨rfl, ?_, fun k_ hk => ?_, hB⟩
  ·
   rw [hh, if_pos he]; exact blk_put hb 3 _ rfl
  ·
   rw [hh]; exact Below.heap_setCell _ _ _ k_ hk
 ·
  refine (impl_HalfHear.clr_ne g 3 gs i kd m w (impl_HalfSay.bc hb 3) (blk_frozen hb 3) hs (beq_eq_false_iff_ne.mpr he)).mono ?_
  rintro e w' ⟨rfl, hh, hB⟩
  refine ⟨rfl, ?_, fun k_ hk => ?_, hB⟩
  ·
   rw [hh, if_neg he]; exact hb
  ·
   rw [hh]
set_option maxHeartbeats 8000000 in
set_option maxRecDepth 100000 in
theorem impl_HalfHear.clr_4 (g gs : Nat) (n o t i f kd m : Int) (w : World) (hb : w.heap[g]? = some (.cells #[.int .i64 n, .int .i64 o, .int .i64 t, .int .i64 i, .int .i64 f] 24 (0, 0))) (hs : w.heap[gs]? = some (.cells #[.int .i64 kd, .int .i64 m] 32 (0, 0))) :
  Calls Try.prog 17 #[.pointer (some ⟨g, 4, none⟩), .pointer (some ⟨gs, 0, none⟩)] w fun e w' => e = .returned (.tuple #[]) ∧ w'.heap[g]? = some (.cells #[.int .i64 n, .int .i64 o, .int .i64 t, .int .i64 i, .int .i64 (if f = m then 0 else f)] 24 (0, 0)) ∧ (∀ k_, k_ ≠ g → w'.heap[k_]? = w.heap[k_]?) ∧ ∀ B w0, Below B w0 w → B ≤ g → Below B w0 w' := by
 by_cases he : f = m
 ·
  refine (impl_HalfHear.clr_eq g 4 gs f kd m w (impl_HalfSay.bc hb 4) (blk_frozen hb 4) hs (beq_iff_eq.mpr he)).mono ?_
  rintro e w' ⟨rfl, hh, hB⟩
  refine ⟨rfl, ?_, fun k_ hk => ?_, hB⟩
  ·
   rw [hh, if_pos he]; exact blk_put hb 4 _ rfl
  ·
   rw [hh]; exact Below.heap_setCell _ _ _ k_ hk
 ·
  refine (impl_HalfHear.clr_ne g 4 gs f kd m w (impl_HalfSay.bc hb 4) (blk_frozen hb 4) hs (beq_eq_false_iff_ne.mpr he)).mono ?_
  rintro e w' ⟨rfl, hh, hB⟩
  refine ⟨rfl, ?_, fun k_ hk => ?_, hB⟩
  ·
   rw [hh, if_neg he]; exact hb
  ·
   rw [hh]
set_option maxHeartbeats 8000000 in
set_option maxRecDepth 100000 in
theorem impl_HalfHear.h1 (g : Nat) (n o t i f m : Int) (w : World) (hb : w.heap[g]? = some (.cells #[.int .i64 n, .int .i64 o, .int .i64 t, .int .i64 i, .int .i64 f] 24 (0, 0))) :
  Calls Try.prog 12 #[.pointer (some ⟨g, 0, none⟩), .agg #[.int .i64 1, .int .i64 m]] w fun e w' => e = .returned (.tuple #[]) ∧ w'.heap[g]? = some (.cells #[.int .i64 n, .int .i64 o, .int .i64 t, .int .i64 m, .int .i64 0] 24 (0, 0)) ∧ (∀ k_, k_ ≠ g → k_ < w.heap.size → w'.heap[k_]? = w.heap[k_]?) ∧ ∀ B w0, Below B w0 w → B ≤ g → B ≤ w.heap.size → Below B w0 w' := by
 have BK0 := Aside0.mk hb
 have GL := Aside0.mk (blk_lt (g := g) (o := .cells #[.int .i64 n, .int .i64 o, .int .i64 t, .int .i64 i, .int .i64 f] 24 (0, 0)) hb)
 clear hb
 have hu32 := Try.underlying32
 have hu24 := Try.underlying24
 have hmf : ∀ fn first cap w, (Instr.makeFunc fn first cap).run Try.prog w = .ok (.func fn first cap) w := fun _ _ _ _ => rfl
 go_enter Try.func12, Try.ntmps12
 go_wp2_with (first | ((with_reducible refine gate_dst (N := 3) rfl ?_); refine box_event ?hg (N := 3) ?hd (cs := #[.int .i64 1, .int .i64 m]) (t := 32) ?hr ?_; (case hd => rfl); (case hg => rfl); (case hr => first | (go_simp; done) | (go_simp; rfl)); intro gs hg w3 hbox hb; have BS := Aside0.mk hbox; have HB := Aside0.mk hb; have GS := Aside0.mk hg; have BK := Aside0.mk (blk_below (g := g) (o := .cells #[.int .i64 n, .int .i64 o, .int .i64 t, .int .i64 i, .int .i64 f] 24 (0, 0)) BK0.out hb); have hcs0 := impl_HalfSay.bc BS.out 0; have hfs0 := blk_frozen BS.out 0; have hcs1 := impl_HalfSay.bc BS.out 1; have hfs1 := blk_frozen BS.out 1; have hcb0 := impl_HalfSay.bc BK.out 0; have hfb0 := blk_frozen BK.out 0; have hcb1 := impl_HalfSay.bc BK.out 1; have hfb1 := blk_frozen BK.out 1; have hcb2 := impl_HalfSay.bc BK.out 2; have hfb2 := blk_frozen BK.out 2; have hcb3 := impl_HalfSay.bc BK.out 3; have hfb3 := blk_frozen BK.out 3; have hcb4 := impl_HalfSay.bc BK.out 4; have hfb4 := blk_frozen BK.out 4; clear hbox hb hg))
 all_goals go_end0
 all_goals exact ⟨rfl, by (with_reducible repeat (first | refine blk_drewN ?_ _ | refine blk_drew ?_ | refine blk_alloc ?_ _)); exact blk_put (blk_put (BK.out) 3 _ rfl) 4 _ rfl, fun k_ hk hl => (Below.heap_setCell _ _ _ k_ hk).trans ((Below.heap_setCell _ _ _ k_ hk).trans (HB.out.block k_ hl)), fun B w0 h hg hl => (by have hBB : Below B w0 w3 := h.trans (HB.out.mono hl); repeat (first | (with_reducible first | exact hBB | apply below_drew | apply pw_below_drewN | refine Below.setCell ?_ hg _) | exact hBB))⟩
set_option maxHeartbeats 8000000 in
set_option maxRecDepth 100000 in
theorem impl_HalfHear.h2_eq (g : Nat) (n o t i f m : Int) (w : World) (hb : w.heap[g]? = some (.cells #[.int .i64 n, .int .i64 o, .int .i64 t, .int .i64 i, .int .i64 f] 24 (0, 0))) (he : (o == m) = true) :
  Calls Try.prog 12 #[.pointer (some ⟨g, 0, none⟩), .agg #[.int .i64 2, .int .i64 m]] w fun e w' => e = .returned (.tuple #[]) ∧ w'.heap[g]? = some (.cells #[.int .i64 n, .int .i64 0, .int .i64 m, .int .i64 i, .int .i64 f] 24 (0, 0)) ∧ (∀ k_, k_ ≠ g → k_ < w.heap.size → w'.heap[k_]? = w.heap[k_]?) ∧ ∀ B w0, Below B w0 w → B ≤ g → B ≤ w.heap.size → Below B w0 w' := by
 have BK0 := Aside0.mk hb
 have GL := Aside0.mk (blk_lt (g := g) (o := .cells #[.int .i64 n, .int .i64 o, .int .i64 t, .int .i64 i, .int .i64 f] 24 (0, 0)) hb)
 clear hb
 have hu32 := Try.underlying32
 have hu24 := Try.underlying24
 have hmf : ∀ fn first cap w, (Instr.makeFunc fn first cap).run Try.prog w = .ok (.func fn first cap) w := fun _ _ _ _ => rfl
 go_enter Try.func12, Try.ntmps12
 go_wp2_with (first | ((with_reducible refine gate_dst (N := 3) rfl ?_); refine box_event ?hg (N := 3) ?hd (cs := #[.int .i64 2, .int .i64 m]) (t := 32) ?hr ?_; (case hd => rfl); (case hg => rfl); (case hr => first | (go_simp; done) | (go_simp; rfl)); intro gs hg w3 hbox hb; have BS := Aside0.mk hbox; have HB := Aside0.mk hb; have GS := Aside0.mk hg; have BK := Aside0.mk (blk_below (g := g) (o := .cells #[.int .i64 n, .int .i64 o, .int .i64 t, .int .i64 i, .int .i64 f] 24 (0, 0)) BK0.out hb); have hcs0 := impl_HalfSay.bc BS.out 0; have hfs0 := blk_frozen BS.out 0; have hcs1 := impl_HalfSay.bc BS.out 1; have hfs1 := blk_frozen BS.out 1; have hcb0 := impl_HalfSay.bc BK.out 0; have hfb0 := blk_frozen BK.out 0; have hcb1 := impl_HalfSay.bc BK.out 1; have hfb1 := blk_frozen BK.out 1; have hcb2 := impl_HalfSay.bc BK.out 2; have hfb2 := blk_frozen BK.out 2; have hcb3 := impl_HalfSay.bc BK.out 3; have hfb3 := blk_frozen BK.out 3; have hcb4 := impl_HalfSay.bc BK.out 4; have hfb4 := blk_frozen BK.out 4; clear hbox hb hg))
 all_goals go_region
 all_goals go_wp2
 all_goals go_end0
 all_goals exact ⟨rfl, by (with_reducible repeat (first | refine blk_drewN ?_ _ | refine blk_drew ?_ | refine blk_alloc ?_ _)); exact blk_put (blk_put (BK.out) 2 _ rfl) 1 _ rfl, fun k_ hk hl => (Below.heap_setCell _ _ _ k_ hk).trans ((Below.heap_setCell _ _ _ k_ hk).trans (HB.out.block k_ hl)), fun B w0 h hg hl => (by have hBB : Below B w0 w3 := h.trans (HB.out.mono hl); repeat (first | (with_reducible first | exact hBB | apply below_drew | apply pw_below_drewN | refine Below.setCell ?_ hg _) | exact hBB))⟩
set_option maxHeartbeats 8000000 in
set_option maxRecDepth 100000 in
theorem impl_HalfHear.h2_ne (g : Nat) (n o t i f m : Int) (w : World) (hb : w.heap[g]? = some (.cells #[.int .i64 n, .int .i64 o, .int .i64 t, .int .i64 i, .int .i64 f] 24 (0, 0))) (he : (o == m) = false) :
  Calls Try.prog 12 #[.pointer (some ⟨g, 0, none⟩), .agg #[.int .i64 2, .int .i64 m]] w fun e w' => e = .returned (.tuple #[]) ∧ w'.heap[g]? = some (.cells #[.int .i64 n, .int .i64 o, .int .i64 t, .int .i64 i, .int .i64 f] 24 (0, 0)) ∧ (∀ k_, k_ ≠ g → k_ < w.heap.size → w'.heap[k_]? = w.heap[k_]?) ∧ ∀ B w0, Below B w0 w → B ≤ g → B ≤ w.heap.size → Below B w0 w' := by
 have BK0 := Aside0.mk hb
 have GL := Aside0.mk (blk_lt (g := g) (o := .cells #[.int .i64 n, .int .i64 o, .int .i64 t, .int .i64 i, .int .i64 f] 24 (0, 0)) hb)
 clear hb
 have hu32 := Try.underlying32
 have hu24 := Try.underlying24
 have hmf : ∀ fn first cap w, (Instr.makeFunc fn first cap).run Try.prog w = .ok (.func fn first cap) w := fun _ _ _ _ => rfl
 go_enter Try.func12, Try.ntmps12
 go_wp2_with (first | ((with_reducible refine gate_dst (N := 3) rfl ?_); refine box_event ?hg (N := 3) ?hd (cs := #[.int .i64 2, .int .i64 m]) (t := 32) ?hr ?_; (case hd => rfl); (case hg => rfl); (case hr => first | (go_simp; done) | (go_simp; rfl)); intro gs hg w3 hbox hb; have BS := Aside0.mk hbox; have HB := Aside0.mk hb; have GS := Aside0.mk hg; have BK := Aside0.mk (blk_below (g := g) (o := .cells #[.int .i64 n, .int .i64 o, .int .i64 t, .int .i64 i, .int .i64 f] 24 (0, 0)) BK0.out hb); have hcs0 := impl_HalfSay.bc BS.out 0; have hfs0 := blk_frozen BS.out 0; have hcs1 := impl_HalfSay.bc BS.out 1; have hfs1 := blk_frozen BS.out 1; have hcb0 := impl_HalfSay.bc BK.out 0; have hfb0 := blk_frozen BK.out 0; have hcb1 := impl_HalfSay.bc BK.out 1; have hfb1 := blk_frozen BK.out 1; have hcb2 := impl_HalfSay.bc BK.out 2; have hfb2 := blk_frozen BK.out 2; have hcb3 := impl_HalfSay.bc BK.out 3; have hfb3 := blk_frozen BK.out 3; have hcb4 := impl_HalfSay.bc BK.out 4; have hfb4 := blk_frozen BK.out 4; clear hbox hb hg))
 all_goals go_region
 all_goals go_wp2
 all_goals go_end0
 all_goals exact ⟨rfl, by (with_reducible repeat (first | refine blk_drewN ?_ _ | refine blk_drew ?_ | refine blk_alloc ?_ _)); exact BK.out, fun k_ hk hl => HB.out.block k_ hl, fun B w0 h hg hl => (by have hBB : Below B w0 w3 := h.trans (HB.out.mono hl); repeat (first | (with_reducible first | exact hBB | apply below_drew | apply pw_below_drewN | refine Below.setCell ?_ hg _) | exact hBB))⟩
set_option maxHeartbeats 8000000 in
set_option maxRecDepth 100000 in
theorem impl_HalfHear.h3 (g : Nat) (n o t i f m z1 z2 : Int) (w : World) (hb : w.heap[g]? = some (.cells #[.int .i64 n, .int .i64 o, .int .i64 t, .int .i64 i, .int .i64 f] 24 (0, 0))) (hz1 : z1 = if i = m then 0 else i) (hz2 : z2 = if f = m then 0 else f) :
  Calls Try.prog 12 #[.pointer (some ⟨g, 0, none⟩), .agg #[.int .i64 3, .int .i64 m]] w fun e w' => e = .returned (.tuple #[]) ∧ w'.heap[g]? = some (.cells #[.int .i64 n, .int .i64 o, .int .i64 t, .int .i64 z1, .int .i64 z2] 24 (0, 0)) ∧ (∀ k_, k_ ≠ g → k_ < w.heap.size → w'.heap[k_]? = w.heap[k_]?) ∧ ∀ B w0, Below B w0 w → B ≤ g → B ≤ w.heap.size → Below B w0 w' := by
 have HZ1 := Aside0.mk hz1
 have HZ2 := Aside0.mk hz2
 clear hz1 hz2
 have BK0 := Aside0.mk hb
 have GL := Aside0.mk (blk_lt (g := g) (o := .cells #[.int .i64 n, .int .i64 o, .int .i64 t, .int .i64 i, .int .i64 f] 24 (0, 0)) hb)
 clear hb
 have hu32 := Try.underlying32
 have hu24 := Try.underlying24
 have hmf : ∀ fn first cap w, (Instr.makeFunc fn first cap).run Try.prog w = .ok (.func fn first cap) w := fun _ _ _ _ => rfl
 go_enter Try.func12, Try.ntmps12
 go_wp2_with (first | ((with_reducible refine gate_dst (N := 3) rfl ?_); refine box_event ?hg (N := 3) ?hd (cs := #[.int .i64 3, .int .i64 m]) (t := 32) ?hr ?_; (case hd => rfl); (case hg => rfl); (case hr => first | (go_simp; done) | (go_simp; rfl)); intro gs hg w3 hbox hb; have BS := Aside0.mk hbox; have HB := Aside0.mk hb; have GS := Aside0.mk hg; have BK := Aside0.mk (blk_below (g := g) (o := .cells #[.int .i64 n, .int .i64 o, .int .i64 t, .int .i64 i, .int .i64 f] 24 (0, 0)) BK0.out hb); have hcs0 := impl_HalfSay.bc BS.out 0; have hfs0 := blk_frozen BS.out 0; have hcs1 := impl_HalfSay.bc BS.out 1; have hfs1 := blk_frozen BS.out 1; have hcb0 := impl_HalfSay.bc BK.out 0; have hfb0 := blk_frozen BK.out 0; have hcb1 := impl_HalfSay.bc BK.out 1; have hfb1 := blk_frozen BK.out 1; have hcb2 := impl_HalfSay.bc BK.out 2; have hfb2 := blk_frozen BK.out 2; have hcb3 := impl_HalfSay.bc BK.out 3; have hfb3 := blk_frozen BK.out 3; have hcb4 := impl_HalfSay.bc BK.out 4; have hfb4 := blk_frozen BK.out 4; clear hbox hb hg) | (go_at_call 17; (with_reducible refine (impl_HalfHear.clr_3 g gs _ _ _ _ _ 3 m _ BK.out BS.out).mono ?_); rintro e w5 ⟨rfl, hb_, hk_, hB_⟩; rw [← HZ1.out] at hb_; have BK5 := Aside0.mk hb_; have BS5 := Aside0.mk ((hk_ gs (by rw [GS.out]; exact Nat.ne_of_gt GL.out)).trans BS.out); have KK5 := Aside0.mk hk_; have BB5 := Aside0.mk hB_; have hcc50 := impl_HalfSay.bc BK5.out 0; have hfc50 := blk_frozen BK5.out 0; have hcc51 := impl_HalfSay.bc BK5.out 1; have hfc51 := blk_frozen BK5.out 1; have hcc52 := impl_HalfSay.bc BK5.out 2; have hfc52 := blk_frozen BK5.out 2; have hcc53 := impl_HalfSay.bc BK5.out 3; have hfc53 := blk_frozen BK5.out 3; have hcc54 := impl_HalfSay.bc BK5.out 4; have hfc54 := blk_frozen BK5.out 4; clear hb_ hk_ hB_) | (go_at_call 17; (with_reducible refine (impl_HalfHear.clr_4 g gs _ _ _ _ _ 3 m _ BK5.out BS5.out).mono ?_); rintro e w6 ⟨rfl, hb_, hk_, hB_⟩; rw [← HZ2.out] at hb_; have BK6 := Aside0.mk hb_; have BS6 := Aside0.mk ((hk_ gs (by rw [GS.out]; exact Nat.ne_of_gt GL.out)).trans BS5.out); have KK6 := Aside0.mk hk_; have BB6 := Aside0.mk hB_; have hcc60 := impl_HalfSay.bc BK6.out 0; have hfc60 := blk_frozen BK6.out 0; have hcc61 := impl_HalfSay.bc BK6.out 1; have hfc61 := blk_frozen BK6.out 1; have hcc62 := impl_HalfSay.bc BK6.out 2; have hfc62 := blk_frozen BK6.out 2; have hcc63 := impl_HalfSay.bc BK6.out 3; have hfc63 := blk_frozen BK6.out 3; have hcc64 := impl_HalfSay.bc BK6.out 4; have hfc64 := blk_frozen BK6.out 4; clear hb_ hk_ hB_))
 all_goals go_end0
 all_goals exact ⟨rfl, BK6.out, fun k_ hk hl => (KK6.out k_ hk).trans ((KK5.out k_ hk).trans (HB.out.block k_ hl)), fun B w0 h hg hl => BB6.out B w0 (BB5.out B w0 (h.trans (HB.out.mono hl)) hg) hg⟩
set_option maxHeartbeats 8000000 in
set_option maxRecDepth 100000 in
theorem impl_HalfHear.h4 (g : Nat) (n o t i f m z1 z2 : Int) (w : World) (hb : w.heap[g]? = some (.cells #[.int .i64 n, .int .i64 o, .int .i64 t, .int .i64 i, .int .i64 f] 24 (0, 0))) (hz1 : z1 = if o = m then 0 else o) (hz2 : z2 = if t = m then 0 else t) :
  Calls Try.prog 12 #[.pointer (some ⟨g, 0, none⟩), .agg #[.int .i64 4, .int .i64 m]] w fun e w' => e = .returned (.tuple #[]) ∧ w'.heap[g]? = some (.cells #[.int .i64 n, .int .i64 z1, .int .i64 z2, .int .i64 i, .int .i64 f] 24 (0, 0)) ∧ (∀ k_, k_ ≠ g → k_ < w.heap.size → w'.heap[k_]? = w.heap[k_]?) ∧ ∀ B w0, Below B w0 w → B ≤ g → B ≤ w.heap.size → Below B w0 w' := by
 have HZ1 := Aside0.mk hz1
 have HZ2 := Aside0.mk hz2
 clear hz1 hz2
 have BK0 := Aside0.mk hb
 have GL := Aside0.mk (blk_lt (g := g) (o := .cells #[.int .i64 n, .int .i64 o, .int .i64 t, .int .i64 i, .int .i64 f] 24 (0, 0)) hb)
 clear hb
 have hu32 := Try.underlying32
 have hu24 := Try.underlying24
 have hmf : ∀ fn first cap w, (Instr.makeFunc fn first cap).run Try.prog w = .ok (.func fn first cap) w := fun _ _ _ _ => rfl
 go_enter Try.func12, Try.ntmps12
 go_wp2_with (first | ((with_reducible refine gate_dst (N := 3) rfl ?_); refine box_event ?hg (N := 3) ?hd (cs := #[.int .i64 4, .int .i64 m]) (t := 32) ?hr ?_; (case hd => rfl); (case hg => rfl); (case hr => first | (go_simp; done) | (go_simp; rfl)); intro gs hg w3 hbox hb; have BS := Aside0.mk hbox; have HB := Aside0.mk hb; have GS := Aside0.mk hg; have BK := Aside0.mk (blk_below (g := g) (o := .cells #[.int .i64 n, .int .i64 o, .int .i64 t, .int .i64 i, .int .i64 f] 24 (0, 0)) BK0.out hb); have hcs0 := impl_HalfSay.bc BS.out 0; have hfs0 := blk_frozen BS.out 0; have hcs1 := impl_HalfSay.bc BS.out 1; have hfs1 := blk_frozen BS.out 1; have hcb0 := impl_HalfSay.bc BK.out 0; have hfb0 := blk_frozen BK.out 0; have hcb1 := impl_HalfSay.bc BK.out 1; have hfb1 := blk_frozen BK.out 1; have hcb2 := impl_HalfSay.bc BK.out 2; have hfb2 := blk_frozen BK.out 2; have hcb3 := impl_HalfSay.bc BK.out 3; have hfb3 := blk_frozen BK.out 3; have hcb4 := impl_HalfSay.bc BK.out 4; have hfb4 := blk_frozen BK.out 4; clear hbox hb hg) | (go_at_call 17; (with_reducible refine (impl_HalfHear.clr_1 g gs _ _ _ _ _ 4 m _ BK.out BS.out).mono ?_); rintro e w5 ⟨rfl, hb_, hk_, hB_⟩; rw [← HZ1.out] at hb_; have BK5 := Aside0.mk hb_; have BS5 := Aside0.mk ((hk_ gs (by rw [GS.out]; exact Nat.ne_of_gt GL.out)).trans BS.out); have KK5 := Aside0.mk hk_; have BB5 := Aside0.mk hB_; have hcc50 := impl_HalfSay.bc BK5.out 0; have hfc50 := blk_frozen BK5.out 0; have hcc51 := impl_HalfSay.bc BK5.out 1; have hfc51 := blk_frozen BK5.out 1; have hcc52 := impl_HalfSay.bc BK5.out 2; have hfc52 := blk_frozen BK5.out 2; have hcc53 := impl_HalfSay.bc BK5.out 3; have hfc53 := blk_frozen BK5.out 3; have hcc54 := impl_HalfSay.bc BK5.out 4; have hfc54 := blk_frozen BK5.out 4; clear hb_ hk_ hB_) | (go_at_call 17; (with_reducible refine (impl_HalfHear.clr_2 g gs _ _ _ _ _ 4 m _ BK5.out BS5.out).mono ?_); rintro e w6 ⟨rfl, hb_, hk_, hB_⟩; rw [← HZ2.out] at hb_; have BK6 := Aside0.mk hb_; have BS6 := Aside0.mk ((hk_ gs (by rw [GS.out]; exact Nat.ne_of_gt GL.out)).trans BS5.out); have KK6 := Aside0.mk hk_; have BB6 := Aside0.mk hB_; have hcc60 := impl_HalfSay.bc BK6.out 0; have hfc60 := blk_frozen BK6.out 0; have hcc61 := impl_HalfSay.bc BK6.out 1; have hfc61 := blk_frozen BK6.out 1; have hcc62 := impl_HalfSay.bc BK6.out 2; have hfc62 := blk_frozen BK6.out 2; have hcc63 := impl_HalfSay.bc BK6.out 3; have hfc63 := blk_frozen BK6.out 3; have hcc64 := impl_HalfSay.bc BK6.out 4; have hfc64 := blk_frozen BK6.out 4; clear hb_ hk_ hB_))
 all_goals go_end0
 all_goals exact ⟨rfl, BK6.out, fun k_ hk hl => (KK6.out k_ hk).trans ((KK5.out k_ hk).trans (HB.out.block k_ hl)), fun B w0 h hg hl => BB6.out B w0 (BB5.out B w0 (h.trans (HB.out.mono hl)) hg) hg⟩
set_option maxHeartbeats 8000000 in
set_option maxRecDepth 100000 in
theorem impl_HalfHear.ill0 (n o t i f kd m : Int) (w : World) (hR0 : impl_HalfRight.f n o t i f = some false) :
  Calls Try.prog 6 #[.agg #[.int .i64 n, .int .i64 o, .int .i64 t, .int .i64 i, .int .i64 f], .agg #[.int .i64 kd, .int .i64 m]] w fun e w' => ∃ v5_ : Value, e = .returned (.agg #[.int .i64 0, .int .i64 0, .int .i64 0, .int .i64 0, .int .i64 0, v5_, .int .i64 1]) ∧ Kd.R k32 32 w' w.heap.size (fun _ => True) v5_ [] ∧ Below w.heap.size w w' := by
 have hR := Aside0.mk hR0
 clear hR0
 have hu24 := Try.underlying24
 have hu28 := Try.underlying28
 have hu32 := Try.underlying32
 go_enter Try.func6, Try.ntmps6
 go_wp2_with (first | ((with_reducible refine gate_dst (N := 2) rfl ?_); refine box_event ?hg (N := 2) ?hd (cs := #[.int .i64 n, .int .i64 o, .int .i64 t, .int .i64 i, .int .i64 f]) (t := 24) ?hr ?_; (case hd => rfl); (case hg => rfl); (case hr => first | (go_simp; done) | (go_simp; rfl)); intro gb hg w2 hbox hb; have BK := Aside0.mk hbox; have HB := Aside0.mk hb; have GE := Aside0.mk (Nat.le_of_eq hg.symm); clear hbox hb hg) | ((with_reducible refine gate_dst (N := 3) rfl ?_); refine box_event ?hg (N := 3) ?hd (cs := #[.int .i64 kd, .int .i64 m]) (t := 32) ?hr ?_; (case hd => rfl); (case hg => rfl); (case hr => first | (go_simp; done) | (go_simp; rfl)); intro gx hg w3 hbox hb; have XK := Aside0.mk hbox; have BK3 := Aside0.mk (blk_below (g := gb) (o := .cells #[.int .i64 n, .int .i64 o, .int .i64 t, .int .i64 i, .int .i64 f] 24 (0, 0)) BK.out hb); have HB3 := Aside0.mk (below_step HB.out hb); clear hbox hb hg) | ((with_reducible refine gate_dst (N := 4) rfl ?_); refine box_event ?hg (N := 4) ?hd (cs := #[.int .i64 0, .int .i64 0, .int .i64 0, .int .i64 0, .int .i64 0, .slice none 0 0, .int .i64 0]) (t := 28) ?hr ?_; (case hd => rfl); (case hg => rfl); (case hr => first | (go_simp; done) | (go_simp; rfl)); intro gr hg w4 hbox hb; have RK4 := Aside0.mk hbox; have BK4 := Aside0.mk (blk_below (g := gb) (o := .cells #[.int .i64 n, .int .i64 o, .int .i64 t, .int .i64 i, .int .i64 f] 24 (0, 0)) BK3.out hb); have XK4 := Aside0.mk (blk_below (g := gx) (o := .cells #[.int .i64 kd, .int .i64 m] 32 (0, 0)) XK.out hb); have HB4 := Aside0.mk (below_step HB3.out hb); have NE := Aside0.mk (show gb ≠ gr by rw [hg]; exact Nat.ne_of_lt (blk_lt (g := gb) (o := .cells #[.int .i64 n, .int .i64 o, .int .i64 t, .int .i64 i, .int .i64 f] 24 (0, 0)) BK3.out)); have GR := Aside0.mk (show w.heap.size ≤ gr by rw [hg]; exact below_size HB3.out); have hcb0 := impl_HalfSay.bc BK4.out 0; have hfb0 := blk_frozen BK4.out 0; have hcb1 := impl_HalfSay.bc BK4.out 1; have hfb1 := blk_frozen BK4.out 1; have hcb2 := impl_HalfSay.bc BK4.out 2; have hfb2 := blk_frozen BK4.out 2; have hcb3 := impl_HalfSay.bc BK4.out 3; have hfb3 := blk_frozen BK4.out 3; have hcb4 := impl_HalfSay.bc BK4.out 4; have hfb4 := blk_frozen BK4.out 4; have hcx0 := impl_HalfSay.bc XK4.out 0; have hfx0 := blk_frozen XK4.out 0; have hcx1 := impl_HalfSay.bc XK4.out 1; have hfx1 := blk_frozen XK4.out 1; clear hbox hb hg) | ((with_reducible refine gate_callee (f := 8) rfl ?_); refine goesL_ (some 6) rfl rfl Try.func8 (by kernel_rfl) rfl #[.agg #[.int .i64 n, .int .i64 o, .int .i64 t, .int .i64 i, .int .i64 f]] rfl zb0_2 ?_; (with_reducible refine (impl_HalfRight.calls n o t i f false _ hR.out).mono ?_); rintro e w5 ⟨rfl, hb⟩; refine ⟨_, rfl, ?_⟩; have BK5 := Aside0.mk (blk_below (g := gb) (o := .cells #[.int .i64 n, .int .i64 o, .int .i64 t, .int .i64 i, .int .i64 f] 24 (0, 0)) BK4.out hb); have XK5 := Aside0.mk (blk_below (g := gx) (o := .cells #[.int .i64 kd, .int .i64 m] 32 (0, 0)) XK4.out hb); have RK5 := Aside0.mk (blk_below (g := gr) (o := .cells #[.int .i64 0, .int .i64 0, .int .i64 0, .int .i64 0, .int .i64 0, .slice none 0 0, .int .i64 0] 28 (0, 0)) RK4.out hb); have HB5 := Aside0.mk (below_step HB4.out hb); have hcs0 := impl_HalfSay.bc BK5.out 0; have hfs0 := blk_frozen BK5.out 0; have hcs1 := impl_HalfSay.bc BK5.out 1; have hfs1 := blk_frozen BK5.out 1; have hcs2 := impl_HalfSay.bc BK5.out 2; have hfs2 := blk_frozen BK5.out 2; have hcs3 := impl_HalfSay.bc BK5.out 3; have hfs3 := blk_frozen BK5.out 3; have hcs4 := impl_HalfSay.bc BK5.out 4; have hfs4 := blk_frozen BK5.out 4; have hcy0 := impl_HalfSay.bc XK5.out 0; have hfy0 := blk_frozen XK5.out 0; have hcy1 := impl_HalfSay.bc XK5.out 1; have hfy1 := blk_frozen XK5.out 1; have hcr0 := impl_HalfSay.bc RK5.out 0; have hfr0 := blk_frozen RK5.out 0; have hcr1 := impl_HalfSay.bc RK5.out 1; have hfr1 := blk_frozen RK5.out 1; have hcr2 := impl_HalfSay.bc RK5.out 2; have hfr2 := blk_frozen RK5.out 2; have hcr3 := impl_HalfSay.bc RK5.out 3; have hfr3 := blk_frozen RK5.out 3; have hcr4 := impl_HalfSay.bc RK5.out 4; have hfr4 := blk_frozen RK5.out 4; have hcr5 := impl_HalfSay.bc RK5.out 5; have hfr5 := blk_frozen RK5.out 5; have hcr6 := impl_HalfSay.bc RK5.out 6; have hfr6 := blk_frozen RK5.out 6; clear hb))
 refine bodyPost_ret (results_cell_row rfl _ _ gr 28 #[.int .i64 0, .int .i64 0, .int .i64 0, .int .i64 0, .int .i64 0, .slice none 0 0, .int .i64 1] (0, 0) _ rfl (by (with_reducible repeat (first | refine blk_drewN ?_ _ | refine blk_drew ?_ | refine blk_alloc ?_ _)); refine blk_put (cs := #[.int .i64 0, .int .i64 0, .int .i64 0, .int .i64 0, .int .i64 0, .slice none 0 0, .int .i64 0]) ?_ 6 _ rfl; (with_reducible repeat (first | refine blk_drewN ?_ _ | refine blk_drew ?_ | refine blk_alloc ?_ _)); refine blk_put (cs := #[.int .i64 0, .int .i64 0, .int .i64 0, .int .i64 0, .int .i64 0, .slice none 0 0, .int .i64 0]) ?_ 5 _ rfl; (with_reducible repeat (first | refine blk_drewN ?_ _ | refine blk_drew ?_ | refine blk_alloc ?_ _)); refine blk_put (cs := #[.int .i64 0, .int .i64 0, .int .i64 0, .int .i64 0, .int .i64 0, .slice none 0 0, .int .i64 0]) ?_ 4 _ rfl; (with_reducible repeat (first | refine blk_drewN ?_ _ | refine blk_drew ?_ | refine blk_alloc ?_ _)); refine blk_put (cs := #[.int .i64 0, .int .i64 0, .int .i64 0, .int .i64 0, .int .i64 0, .slice none 0 0, .int .i64 0]) ?_ 3 _ rfl; (with_reducible repeat (first | refine blk_drewN ?_ _ | refine blk_drew ?_ | refine blk_alloc ?_ _)); refine blk_put (cs := #[.int .i64 0, .int .i64 0, .int .i64 0, .int .i64 0, .int .i64 0, .slice none 0 0, .int .i64 0]) ?_ 2 _ rfl; (with_reducible repeat (first | refine blk_drewN ?_ _ | refine blk_drew ?_ | refine blk_alloc ?_ _)); refine blk_put (cs := #[.int .i64 0, .int .i64 0, .int .i64 0, .int .i64 0, .int .i64 0, .slice none 0 0, .int .i64 0]) ?_ 1 _ rfl; (with_reducible repeat (first | refine blk_drewN ?_ _ | refine blk_drew ?_ | refine blk_alloc ?_ _)); refine blk_put (cs := #[.int .i64 0, .int .i64 0, .int .i64 0, .int .i64 0, .int .i64 0, .slice none 0 0, .int .i64 0]) ?_ 0 _ rfl; (with_reducible repeat (first | refine blk_drewN ?_ _ | refine blk_drew ?_ | refine blk_alloc ?_ _)); exact RK5.out) Try.underlying28 rfl (by kernel_rfl)) rfl ?_
 exact ⟨_, rfl, Kd.R_nil _ _ _ _ _, by repeat (first | (with_reducible first | exact HB5.out | apply below_alloc | apply pw_below_drewN | apply below_drew1 | refine below_set ?_ GR.out) | exact HB5.out)⟩
set_option maxHeartbeats 8000000 in
set_option maxRecDepth 100000 in
theorem impl_HalfHear.ill1 (n o t i f kd m : Int) (w : World) (hR0 : impl_HalfRight.f n o t i f = some true) (hK0 : impl_subRight.f kd m = some false) :
  Calls Try.prog 6 #[.agg #[.int .i64 n, .int .i64 o, .int .i64 t, .int .i64 i, .int .i64 f], .agg #[.int .i64 kd, .int .i64 m]] w fun e w' => ∃ v5_ : Value, e = .returned (.agg #[.int .i64 0, .int .i64 0, .int .i64 0, .int .i64 0, .int .i64 0, v5_, .int .i64 1]) ∧ Kd.R k32 32 w' w.heap.size (fun _ => True) v5_ [] ∧ Below w.heap.size w w' := by
 have hR := Aside0.mk hR0
 have hK := Aside0.mk hK0
 clear hR0 hK0
 have hu24 := Try.underlying24
 have hu28 := Try.underlying28
 have hu32 := Try.underlying32
 go_enter Try.func6, Try.ntmps6
 go_wp2_with (first | ((with_reducible refine gate_dst (N := 2) rfl ?_); refine box_event ?hg (N := 2) ?hd (cs := #[.int .i64 n, .int .i64 o, .int .i64 t, .int .i64 i, .int .i64 f]) (t := 24) ?hr ?_; (case hd => rfl); (case hg => rfl); (case hr => first | (go_simp; done) | (go_simp; rfl)); intro gb hg w2 hbox hb; have BK := Aside0.mk hbox; have HB := Aside0.mk hb; have GE := Aside0.mk (Nat.le_of_eq hg.symm); clear hbox hb hg) | ((with_reducible refine gate_dst (N := 3) rfl ?_); refine box_event ?hg (N := 3) ?hd (cs := #[.int .i64 kd, .int .i64 m]) (t := 32) ?hr ?_; (case hd => rfl); (case hg => rfl); (case hr => first | (go_simp; done) | (go_simp; rfl)); intro gx hg w3 hbox hb; have XK := Aside0.mk hbox; have BK3 := Aside0.mk (blk_below (g := gb) (o := .cells #[.int .i64 n, .int .i64 o, .int .i64 t, .int .i64 i, .int .i64 f] 24 (0, 0)) BK.out hb); have HB3 := Aside0.mk (below_step HB.out hb); clear hbox hb hg) | ((with_reducible refine gate_dst (N := 4) rfl ?_); refine box_event ?hg (N := 4) ?hd (cs := #[.int .i64 0, .int .i64 0, .int .i64 0, .int .i64 0, .int .i64 0, .slice none 0 0, .int .i64 0]) (t := 28) ?hr ?_; (case hd => rfl); (case hg => rfl); (case hr => first | (go_simp; done) | (go_simp; rfl)); intro gr hg w4 hbox hb; have RK4 := Aside0.mk hbox; have BK4 := Aside0.mk (blk_below (g := gb) (o := .cells #[.int .i64 n, .int .i64 o, .int .i64 t, .int .i64 i, .int .i64 f] 24 (0, 0)) BK3.out hb); have XK4 := Aside0.mk (blk_below (g := gx) (o := .cells #[.int .i64 kd, .int .i64 m] 32 (0, 0)) XK.out hb); have HB4 := Aside0.mk (below_step HB3.out hb); have NE := Aside0.mk (show gb ≠ gr by rw [hg]; exact Nat.ne_of_lt (blk_lt (g := gb) (o := .cells #[.int .i64 n, .int .i64 o, .int .i64 t, .int .i64 i, .int .i64 f] 24 (0, 0)) BK3.out)); have GR := Aside0.mk (show w.heap.size ≤ gr by rw [hg]; exact below_size HB3.out); have hcb0 := impl_HalfSay.bc BK4.out 0; have hfb0 := blk_frozen BK4.out 0; have hcb1 := impl_HalfSay.bc BK4.out 1; have hfb1 := blk_frozen BK4.out 1; have hcb2 := impl_HalfSay.bc BK4.out 2; have hfb2 := blk_frozen BK4.out 2; have hcb3 := impl_HalfSay.bc BK4.out 3; have hfb3 := blk_frozen BK4.out 3; have hcb4 := impl_HalfSay.bc BK4.out 4; have hfb4 := blk_frozen BK4.out 4; have hcx0 := impl_HalfSay.bc XK4.out 0; have hfx0 := blk_frozen XK4.out 0; have hcx1 := impl_HalfSay.bc XK4.out 1; have hfx1 := blk_frozen XK4.out 1; clear hbox hb hg) | ((with_reducible refine gate_callee (f := 8) rfl ?_); refine goesL_ (some 6) rfl rfl Try.func8 (by kernel_rfl) rfl #[.agg #[.int .i64 n, .int .i64 o, .int .i64 t, .int .i64 i, .int .i64 f]] rfl zb0_2 ?_; (with_reducible refine (impl_HalfRight.calls n o t i f true _ hR.out).mono ?_); rintro e w5 ⟨rfl, hb⟩; refine ⟨_, rfl, ?_⟩; have BK5 := Aside0.mk (blk_below (g := gb) (o := .cells #[.int .i64 n, .int .i64 o, .int .i64 t, .int .i64 i, .int .i64 f] 24 (0, 0)) BK4.out hb); have XK5 := Aside0.mk (blk_below (g := gx) (o := .cells #[.int .i64 kd, .int .i64 m] 32 (0, 0)) XK4.out hb); have RK5 := Aside0.mk (blk_below (g := gr) (o := .cells #[.int .i64 0, .int .i64 0, .int .i64 0, .int .i64 0, .int .i64 0, .slice none 0 0, .int .i64 0] 28 (0, 0)) RK4.out hb); have HB5 := Aside0.mk (below_step HB4.out hb); have hcs0 := impl_HalfSay.bc BK5.out 0; have hfs0 := blk_frozen BK5.out 0; have hcs1 := impl_HalfSay.bc BK5.out 1; have hfs1 := blk_frozen BK5.out 1; have hcs2 := impl_HalfSay.bc BK5.out 2; have hfs2 := blk_frozen BK5.out 2; have hcs3 := impl_HalfSay.bc BK5.out 3; have hfs3 := blk_frozen BK5.out 3; have hcs4 := impl_HalfSay.bc BK5.out 4; have hfs4 := blk_frozen BK5.out 4; have hcy0 := impl_HalfSay.bc XK5.out 0; have hfy0 := blk_frozen XK5.out 0; have hcy1 := impl_HalfSay.bc XK5.out 1; have hfy1 := blk_frozen XK5.out 1; have hcr0 := impl_HalfSay.bc RK5.out 0; have hfr0 := blk_frozen RK5.out 0; have hcr1 := impl_HalfSay.bc RK5.out 1; have hfr1 := blk_frozen RK5.out 1; have hcr2 := impl_HalfSay.bc RK5.out 2; have hfr2 := blk_frozen RK5.out 2; have hcr3 := impl_HalfSay.bc RK5.out 3; have hfr3 := blk_frozen RK5.out 3; have hcr4 := impl_HalfSay.bc RK5.out 4; have hfr4 := blk_frozen RK5.out 4; have hcr5 := impl_HalfSay.bc RK5.out 5; have hfr5 := blk_frozen RK5.out 5; have hcr6 := impl_HalfSay.bc RK5.out 6; have hfr6 := blk_frozen RK5.out 6; clear hb) | (go_at_call 11; (with_reducible refine (impl_subRight.calls kd m false _ hK.out).mono ?_); rintro e w6 ⟨rfl, hb⟩; have BK6 := Aside0.mk (blk_below (g := gb) (o := .cells #[.int .i64 n, .int .i64 o, .int .i64 t, .int .i64 i, .int .i64 f] 24 (0, 0)) BK5.out hb); have XK6 := Aside0.mk (blk_below (g := gx) (o := .cells #[.int .i64 kd, .int .i64 m] 32 (0, 0)) XK5.out hb); have RK6 := Aside0.mk (blk_below (g := gr) (o := .cells #[.int .i64 0, .int .i64 0, .int .i64 0, .int .i64 0, .int .i64 0, .slice none 0 0, .int .i64 0] 28 (0, 0)) RK5.out hb); have HB6 := Aside0.mk (below_step HB5.out hb); have hcp0 := impl_HalfSay.bc BK6.out 0; have hfp0 := blk_frozen BK6.out 0; have hcp1 := impl_HalfSay.bc BK6.out 1; have hfp1 := blk_frozen BK6.out 1; have hcp2 := impl_HalfSay.bc BK6.out 2; have hfp2 := blk_frozen BK6.out 2; have hcp3 := impl_HalfSay.bc BK6.out 3; have hfp3 := blk_frozen BK6.out 3; have hcp4 := impl_HalfSay.bc BK6.out 4; have hfp4 := blk_frozen BK6.out 4; have hcq0 := impl_HalfSay.bc XK6.out 0; have hfq0 := blk_frozen XK6.out 0; have hcq1 := impl_HalfSay.bc XK6.out 1; have hfq1 := blk_frozen XK6.out 1; have hck0 := impl_HalfSay.bc RK6.out 0; have hfk0 := blk_frozen RK6.out 0; have hck1 := impl_HalfSay.bc RK6.out 1; have hfk1 := blk_frozen RK6.out 1; have hck2 := impl_HalfSay.bc RK6.out 2; have hfk2 := blk_frozen RK6.out 2; have hck3 := impl_HalfSay.bc RK6.out 3; have hfk3 := blk_frozen RK6.out 3; have hck4 := impl_HalfSay.bc RK6.out 4; have hfk4 := blk_frozen RK6.out 4; have hck5 := impl_HalfSay.bc RK6.out 5; have hfk5 := blk_frozen RK6.out 5; have hck6 := impl_HalfSay.bc RK6.out 6; have hfk6 := blk_frozen RK6.out 6; clear hb))
 refine bodyPost_ret (results_cell_row rfl _ _ gr 28 #[.int .i64 0, .int .i64 0, .int .i64 0, .int .i64 0, .int .i64 0, .slice none 0 0, .int .i64 1] (0, 0) _ rfl (by (with_reducible repeat (first | refine blk_drewN ?_ _ | refine blk_drew ?_ | refine blk_alloc ?_ _)); refine blk_put (cs := #[.int .i64 0, .int .i64 0, .int .i64 0, .int .i64 0, .int .i64 0, .slice none 0 0, .int .i64 0]) ?_ 6 _ rfl; (with_reducible repeat (first | refine blk_drewN ?_ _ | refine blk_drew ?_ | refine blk_alloc ?_ _)); refine blk_put (cs := #[.int .i64 0, .int .i64 0, .int .i64 0, .int .i64 0, .int .i64 0, .slice none 0 0, .int .i64 0]) ?_ 5 _ rfl; (with_reducible repeat (first | refine blk_drewN ?_ _ | refine blk_drew ?_ | refine blk_alloc ?_ _)); refine blk_put (cs := #[.int .i64 0, .int .i64 0, .int .i64 0, .int .i64 0, .int .i64 0, .slice none 0 0, .int .i64 0]) ?_ 4 _ rfl; (with_reducible repeat (first | refine blk_drewN ?_ _ | refine blk_drew ?_ | refine blk_alloc ?_ _)); refine blk_put (cs := #[.int .i64 0, .int .i64 0, .int .i64 0, .int .i64 0, .int .i64 0, .slice none 0 0, .int .i64 0]) ?_ 3 _ rfl; (with_reducible repeat (first | refine blk_drewN ?_ _ | refine blk_drew ?_ | refine blk_alloc ?_ _)); refine blk_put (cs := #[.int .i64 0, .int .i64 0, .int .i64 0, .int .i64 0, .int .i64 0, .slice none 0 0, .int .i64 0]) ?_ 2 _ rfl; (with_reducible repeat (first | refine blk_drewN ?_ _ | refine blk_drew ?_ | refine blk_alloc ?_ _)); refine blk_put (cs := #[.int .i64 0, .int .i64 0, .int .i64 0, .int .i64 0, .int .i64 0, .slice none 0 0, .int .i64 0]) ?_ 1 _ rfl; (with_reducible repeat (first | refine blk_drewN ?_ _ | refine blk_drew ?_ | refine blk_alloc ?_ _)); refine blk_put (cs := #[.int .i64 0, .int .i64 0, .int .i64 0, .int .i64 0, .int .i64 0, .slice none 0 0, .int .i64 0]) ?_ 0 _ rfl; (with_reducible repeat (first | refine blk_drewN ?_ _ | refine blk_drew ?_ | refine blk_alloc ?_ _)); exact RK6.out) Try.underlying28 rfl (by kernel_rfl)) rfl ?_
 exact ⟨_, rfl, Kd.R_nil _ _ _ _ _, by repeat (first | (with_reducible first | exact HB6.out | apply below_alloc | apply pw_below_drewN | apply below_drew1 | refine below_set ?_ GR.out) | exact HB6.out)⟩
set_option maxHeartbeats 8000000 in
set_option maxRecDepth 100000 in
theorem impl_HalfHear.ok (n o t i f kd m n' o' t' i' f' : Int) (w : World) (hR0 : impl_HalfRight.f n o t i f = some true) (hK0 : impl_subRight.f kd m = some true) (act : ∀ (g : Nat) (w : World), w.heap[g]? = some (.cells #[.int .i64 n, .int .i64 o, .int .i64 t, .int .i64 i, .int .i64 f] 24 (0, 0)) → Calls Try.prog 12 #[.pointer (some ⟨g, 0, none⟩), .agg #[.int .i64 kd, .int .i64 m]] w fun e w' => e = .returned (.tuple #[]) ∧ w'.heap[g]? = some (.cells #[.int .i64 n', .int .i64 o', .int .i64 t', .int .i64 i', .int .i64 f'] 24 (0, 0)) ∧ (∀ k_, k_ ≠ g → k_ < w.heap.size → w'.heap[k_]? = w.heap[k_]?) ∧ ∀ B w0, Below B w0 w → B ≤ g → B ≤ w.heap.size → Below B w0 w') :
  Calls Try.prog 6 #[.agg #[.int .i64 n, .int .i64 o, .int .i64 t, .int .i64 i, .int .i64 f], .agg #[.int .i64 kd, .int .i64 m]] w fun e w' => ∃ v5_ : Value, e = .returned (.agg #[.int .i64 n', .int .i64 o', .int .i64 t', .int .i64 i', .int .i64 f', v5_, .int .i64 0]) ∧ Kd.R k32 32 w' w.heap.size (fun _ => True) v5_ [] ∧ Below w.heap.size w w' := by
 have hR := Aside0.mk hR0
 have hK := Aside0.mk hK0
 clear hR0 hK0
 have ACT_ := Aside0.mk act
 clear act
 have hu24 := Try.underlying24
 have hu28 := Try.underlying28
 have hu32 := Try.underlying32
 go_enter Try.func6, Try.ntmps6
 go_wp2_with (first | ((with_reducible refine gate_dst (N := 2) rfl ?_); refine box_event ?hg (N := 2) ?hd (cs := #[.int .i64 n, .int .i64 o, .int .i64 t, .int .i64 i, .int .i64 f]) (t := 24) ?hr ?_; (case hd => rfl); (case hg => rfl); (case hr => first | (go_simp; done) | (go_simp; rfl)); intro gb hg w2 hbox hb; have BK := Aside0.mk hbox; have HB := Aside0.mk hb; have GE := Aside0.mk (Nat.le_of_eq hg.symm); clear hbox hb hg) | ((with_reducible refine gate_dst (N := 3) rfl ?_); refine box_event ?hg (N := 3) ?hd (cs := #[.int .i64 kd, .int .i64 m]) (t := 32) ?hr ?_; (case hd => rfl); (case hg => rfl); (case hr => first | (go_simp; done) | (go_simp; rfl)); intro gx hg w3 hbox hb; have XK := Aside0.mk hbox; have BK3 := Aside0.mk (blk_below (g := gb) (o := .cells #[.int .i64 n, .int .i64 o, .int .i64 t, .int .i64 i, .int .i64 f] 24 (0, 0)) BK.out hb); have HB3 := Aside0.mk (below_step HB.out hb); clear hbox hb hg) | ((with_reducible refine gate_dst (N := 4) rfl ?_); refine box_event ?hg (N := 4) ?hd (cs := #[.int .i64 0, .int .i64 0, .int .i64 0, .int .i64 0, .int .i64 0, .slice none 0 0, .int .i64 0]) (t := 28) ?hr ?_; (case hd => rfl); (case hg => rfl); (case hr => first | (go_simp; done) | (go_simp; rfl)); intro gr hg w4 hbox hb; have RK4 := Aside0.mk hbox; have BK4 := Aside0.mk (blk_below (g := gb) (o := .cells #[.int .i64 n, .int .i64 o, .int .i64 t, .int .i64 i, .int .i64 f] 24 (0, 0)) BK3.out hb); have XK4 := Aside0.mk (blk_below (g := gx) (o := .cells #[.int .i64 kd, .int .i64 m] 32 (0, 0)) XK.out hb); have HB4 := Aside0.mk (below_step HB3.out hb); have NE := Aside0.mk (show gb ≠ gr by rw [hg]; exact Nat.ne_of_lt (blk_lt (g := gb) (o := .cells #[.int .i64 n, .int .i64 o, .int .i64 t, .int .i64 i, .int .i64 f] 24 (0, 0)) BK3.out)); have GR := Aside0.mk (show w.heap.size ≤ gr by rw [hg]; exact below_size HB3.out); have hcb0 := impl_HalfSay.bc BK4.out 0; have hfb0 := blk_frozen BK4.out 0; have hcb1 := impl_HalfSay.bc BK4.out 1; have hfb1 := blk_frozen BK4.out 1; have hcb2 := impl_HalfSay.bc BK4.out 2; have hfb2 := blk_frozen BK4.out 2; have hcb3 := impl_HalfSay.bc BK4.out 3; have hfb3 := blk_frozen BK4.out 3; have hcb4 := impl_HalfSay.bc BK4.out 4; have hfb4 := blk_frozen BK4.out 4; have hcx0 := impl_HalfSay.bc XK4.out 0; have hfx0 := blk_frozen XK4.out 0; have hcx1 := impl_HalfSay.bc XK4.out 1; have hfx1 := blk_frozen XK4.out 1; clear hbox hb hg) | ((with_reducible refine gate_callee (f := 8) rfl ?_); refine goesL_ (some 6) rfl rfl Try.func8 (by kernel_rfl) rfl #[.agg #[.int .i64 n, .int .i64 o, .int .i64 t, .int .i64 i, .int .i64 f]] rfl zb0_2 ?_; (with_reducible refine (impl_HalfRight.calls n o t i f true _ hR.out).mono ?_); rintro e w5 ⟨rfl, hb⟩; refine ⟨_, rfl, ?_⟩; have BK5 := Aside0.mk (blk_below (g := gb) (o := .cells #[.int .i64 n, .int .i64 o, .int .i64 t, .int .i64 i, .int .i64 f] 24 (0, 0)) BK4.out hb); have XK5 := Aside0.mk (blk_below (g := gx) (o := .cells #[.int .i64 kd, .int .i64 m] 32 (0, 0)) XK4.out hb); have RK5 := Aside0.mk (blk_below (g := gr) (o := .cells #[.int .i64 0, .int .i64 0, .int .i64 0, .int .i64 0, .int .i64 0, .slice none 0 0, .int .i64 0] 28 (0, 0)) RK4.out hb); have HB5 := Aside0.mk (below_step HB4.out hb); have hcs0 := impl_HalfSay.bc BK5.out 0; have hfs0 := blk_frozen BK5.out 0; have hcs1 := impl_HalfSay.bc BK5.out 1; have hfs1 := blk_frozen BK5.out 1; have hcs2 := impl_HalfSay.bc BK5.out 2; have hfs2 := blk_frozen BK5.out 2; have hcs3 := impl_HalfSay.bc BK5.out 3; have hfs3 := blk_frozen BK5.out 3; have hcs4 := impl_HalfSay.bc BK5.out 4; have hfs4 := blk_frozen BK5.out 4; have hcy0 := impl_HalfSay.bc XK5.out 0; have hfy0 := blk_frozen XK5.out 0; have hcy1 := impl_HalfSay.bc XK5.out 1; have hfy1 := blk_frozen XK5.out 1; have hcr0 := impl_HalfSay.bc RK5.out 0; have hfr0 := blk_frozen RK5.out 0; have hcr1 := impl_HalfSay.bc RK5.out 1; have hfr1 := blk_frozen RK5.out 1; have hcr2 := impl_HalfSay.bc RK5.out 2; have hfr2 := blk_frozen RK5.out 2; have hcr3 := impl_HalfSay.bc RK5.out 3; have hfr3 := blk_frozen RK5.out 3; have hcr4 := impl_HalfSay.bc RK5.out 4; have hfr4 := blk_frozen RK5.out 4; have hcr5 := impl_HalfSay.bc RK5.out 5; have hfr5 := blk_frozen RK5.out 5; have hcr6 := impl_HalfSay.bc RK5.out 6; have hfr6 := blk_frozen RK5.out 6; clear hb) | (go_at_call 11; (with_reducible refine (impl_subRight.calls kd m true _ hK.out).mono ?_); rintro e w6 ⟨rfl, hb⟩; have BK6 := Aside0.mk (blk_below (g := gb) (o := .cells #[.int .i64 n, .int .i64 o, .int .i64 t, .int .i64 i, .int .i64 f] 24 (0, 0)) BK5.out hb); have XK6 := Aside0.mk (blk_below (g := gx) (o := .cells #[.int .i64 kd, .int .i64 m] 32 (0, 0)) XK5.out hb); have RK6 := Aside0.mk (blk_below (g := gr) (o := .cells #[.int .i64 0, .int .i64 0, .int .i64 0, .int .i64 0, .int .i64 0, .slice none 0 0, .int .i64 0] 28 (0, 0)) RK5.out hb); have HB6 := Aside0.mk (below_step HB5.out hb); have hcp0 := impl_HalfSay.bc BK6.out 0; have hfp0 := blk_frozen BK6.out 0; have hcp1 := impl_HalfSay.bc BK6.out 1; have hfp1 := blk_frozen BK6.out 1; have hcp2 := impl_HalfSay.bc BK6.out 2; have hfp2 := blk_frozen BK6.out 2; have hcp3 := impl_HalfSay.bc BK6.out 3; have hfp3 := blk_frozen BK6.out 3; have hcp4 := impl_HalfSay.bc BK6.out 4; have hfp4 := blk_frozen BK6.out 4; have hcq0 := impl_HalfSay.bc XK6.out 0; have hfq0 := blk_frozen XK6.out 0; have hcq1 := impl_HalfSay.bc XK6.out 1; have hfq1 := blk_frozen XK6.out 1; have hck0 := impl_HalfSay.bc RK6.out 0; have hfk0 := blk_frozen RK6.out 0; have hck1 := impl_HalfSay.bc RK6.out 1; have hfk1 := blk_frozen RK6.out 1; have hck2 := impl_HalfSay.bc RK6.out 2; have hfk2 := blk_frozen RK6.out 2; have hck3 := impl_HalfSay.bc RK6.out 3; have hfk3 := blk_frozen RK6.out 3; have hck4 := impl_HalfSay.bc RK6.out 4; have hfk4 := blk_frozen RK6.out 4; have hck5 := impl_HalfSay.bc RK6.out 5; have hfk5 := blk_frozen RK6.out 5; have hck6 := impl_HalfSay.bc RK6.out 6; have hfk6 := blk_frozen RK6.out 6; clear hb) | (go_at_call 12; refine (ACT_.out gb _ BK6.out).mono ?_; rintro e w7 ⟨rfl, hb7, hk7, hB7⟩; have BK7 := Aside0.mk hb7; have RK7 := Aside0.mk ((hk7 gr (Ne.symm NE.out) (blk_lt (g := gr) (o := .cells #[.int .i64 0, .int .i64 0, .int .i64 0, .int .i64 0, .int .i64 0, .slice none 0 0, .int .i64 0] 28 (0, 0)) RK6.out)).trans RK6.out); have HB7 := Aside0.mk (hB7 _ _ HB6.out GE.out (below_size HB6.out)); have hct0 := impl_HalfSay.bc BK7.out 0; have hft0 := blk_frozen BK7.out 0; have hct1 := impl_HalfSay.bc BK7.out 1; have hft1 := blk_frozen BK7.out 1; have hct2 := impl_HalfSay.bc BK7.out 2; have hft2 := blk_frozen BK7.out 2; have hct3 := impl_HalfSay.bc BK7.out 3; have hft3 := blk_frozen BK7.out 3; have hct4 := impl_HalfSay.bc BK7.out 4; have hft4 := blk_frozen BK7.out 4; have hcu0 := impl_HalfSay.bc RK7.out 0; have hfu0 := blk_frozen RK7.out 0; have hcu1 := impl_HalfSay.bc RK7.out 1; have hfu1 := blk_frozen RK7.out 1; have hcu2 := impl_HalfSay.bc RK7.out 2; have hfu2 := blk_frozen RK7.out 2; have hcu3 := impl_HalfSay.bc RK7.out 3; have hfu3 := blk_frozen RK7.out 3; have hcu4 := impl_HalfSay.bc RK7.out 4; have hfu4 := blk_frozen RK7.out 4; have hcu5 := impl_HalfSay.bc RK7.out 5; have hfu5 := blk_frozen RK7.out 5; have hcu6 := impl_HalfSay.bc RK7.out 6; have hfu6 := blk_frozen RK7.out 6; clear hb7 hk7 hB7))
 refine bodyPost_ret (results_cell_row rfl _ _ gr 28 #[.int .i64 n', .int .i64 o', .int .i64 t', .int .i64 i', .int .i64 f', .slice none 0 0, .int .i64 0] (0, 0) _ rfl (by (with_reducible repeat (first | refine blk_drewN ?_ _ | refine blk_drew ?_ | refine blk_alloc ?_ _)); refine blk_put (cs := #[.int .i64 n', .int .i64 o', .int .i64 t', .int .i64 i', .int .i64 f', .slice none 0 0, .int .i64 0]) ?_ 6 _ rfl; (with_reducible repeat (first | refine blk_drewN ?_ _ | refine blk_drew ?_ | refine blk_alloc ?_ _)); refine blk_put (cs := #[.int .i64 n', .int .i64 o', .int .i64 t', .int .i64 i', .int .i64 f', .slice none 0 0, .int .i64 0]) ?_ 5 _ rfl; (with_reducible repeat (first | refine blk_drewN ?_ _ | refine blk_drew ?_ | refine blk_alloc ?_ _)); refine blk_put (cs := #[.int .i64 n', .int .i64 o', .int .i64 t', .int .i64 i', .int .i64 0, .slice none 0 0, .int .i64 0]) ?_ 4 _ rfl; (with_reducible repeat (first | refine blk_drewN ?_ _ | refine blk_drew ?_ | refine blk_alloc ?_ _)); refine blk_put (cs := #[.int .i64 n', .int .i64 o', .int .i64 t', .int .i64 0, .int .i64 0, .slice none 0 0, .int .i64 0]) ?_ 3 _ rfl; (with_reducible repeat (first | refine blk_drewN ?_ _ | refine blk_drew ?_ | refine blk_alloc ?_ _)); refine blk_put (cs := #[.int .i64 n', .int .i64 o', .int .i64 0, .int .i64 0, .int .i64 0, .slice none 0 0, .int .i64 0]) ?_ 2 _ rfl; (with_reducible repeat (first | refine blk_drewN ?_ _ | refine blk_drew ?_ | refine blk_alloc ?_ _)); refine blk_put (cs := #[.int .i64 n', .int .i64 0, .int .i64 0, .int .i64 0, .int .i64 0, .slice none 0 0, .int .i64 0]) ?_ 1 _ rfl; (with_reducible repeat (first | refine blk_drewN ?_ _ | refine blk_drew ?_ | refine blk_alloc ?_ _)); refine blk_put (cs := #[.int .i64 0, .int .i64 0, .int .i64 0, .int .i64 0, .int .i64 0, .slice none 0 0, .int .i64 0]) ?_ 0 _ rfl; (with_reducible repeat (first | refine blk_drewN ?_ _ | refine blk_drew ?_ | refine blk_alloc ?_ _)); exact RK7.out) Try.underlying28 rfl (by kernel_rfl)) rfl ?_
 exact ⟨_, rfl, Kd.R_nil _ _ _ _ _, by repeat (first | (with_reducible first | exact HB7.out | apply below_alloc | apply pw_below_drewN | apply below_drew1 | refine below_set ?_ GR.out) | exact HB7.out)⟩
theorem impl_HalfHear.calls (a0_0 : Int) (a0_1 : Int) (a0_2 : Int) (a0_3 : Int) (a0_4 : Int) (a1_0 : Int) (a1_1 : Int) (r1 : Int) (r2 : Int) (r3 : Int) (r4 : Int) (r5 : Int) (r6 : List (S32)) (r7 : Int) (w : World) (h : impl_HalfHear.f a0_0 a0_1 a0_2 a0_3 a0_4 a1_0 a1_1 = some (r1, r2, r3, r4, r5, r6, r7)) :
  Calls Try.prog 6 #[.agg #[.int .i64 a0_0, .int .i64 a0_1, .int .i64 a0_2, .int .i64 a0_3, .int .i64 a0_4], .agg #[.int .i64 a1_0, .int .i64 a1_1]] w fun e w' => ∃ v5_ : Value, e = .returned (.agg #[.int .i64 r1, .int .i64 r2, .int .i64 r3, .int .i64 r4, .int .i64 r5, v5_, .int .i64 r7]) ∧ Kd.R k32 32 w' w.heap.size (fun _ => True) v5_ r6 ∧ Below w.heap.size w w' := by
 unfold impl_HalfHear.f at h
 rw [impl_HalfSay.right_dec] at h
 simp only [Option.bind_some] at h
 by_cases hr : ((0 ≤ a0_0 ∧ a0_0 ≤ 1000000000) ∧ (0 ≤ a0_1 ∧ a0_1 ≤ a0_0 ∧ 0 ≤ a0_2 ∧ a0_2 ≤ a0_0 ∧ (a0_1 = 0 ∨ a0_2 = 0)) ∧ (0 ≤ a0_3 ∧ a0_3 ≤ 1000000000 ∧ 0 ≤ a0_4 ∧ a0_4 ≤ 1000000000 ∧ (a0_3 = 0 ∨ a0_4 = 0)))
 ·
  rw [if_pos (decide_eq_true hr)] at h
  have hR : impl_HalfRight.f a0_0 a0_1 a0_2 a0_3 a0_4 = some true := by rw [impl_HalfSay.right_dec, decide_eq_true hr]
  by_cases hk : (1 ≤ a1_0 ∧ a1_0 ≤ 4) ∧ 1 ≤ a1_1 ∧ a1_1 ≤ 1000000000
  ·
   rw [if_pos hk] at h
   have hK : impl_subRight.f a1_0 a1_1 = some true := by rw [impl_HalfHear.sub_dec, decide_eq_true hk]
   have hr2 := Option.some.inj h
   clear h
   unfold impl_HalfHear.hear at hr2
   have hk4 : a1_0 = 1 ∨ a1_0 = 2 ∨ a1_0 = 3 ∨ a1_0 = 4 := by omega
   rcases hk4 with rfl | rfl | rfl | rfl
   ·
    rw [if_pos rfl] at hr2
    simp only [Prod.mk.injEq] at hr2
    obtain ⟨rfl, rfl, rfl, rfl, rfl, rfl, rfl⟩ := hr2
    exact impl_HalfHear.ok _ _ _ _ _ 1 _ _ _ _ _ _ w hR hK (fun g W hb => impl_HalfHear.h1 g _ _ _ _ _ _ W hb)
   ·
    rw [if_neg (by decide), if_pos rfl] at hr2
    by_cases he : a0_1 = a1_1
    ·
     rw [if_pos he] at hr2
     simp only [Prod.mk.injEq] at hr2
     obtain ⟨rfl, rfl, rfl, rfl, rfl, rfl, rfl⟩ := hr2
     exact impl_HalfHear.ok _ _ _ _ _ 2 _ _ _ _ _ _ w hR hK (fun g W hb => impl_HalfHear.h2_eq g _ _ _ _ _ _ W hb (beq_iff_eq.mpr he))
    ·
     rw [if_neg he] at hr2
     simp only [Prod.mk.injEq] at hr2
     obtain ⟨rfl, rfl, rfl, rfl, rfl, rfl, rfl⟩ := hr2
     exact impl_HalfHear.ok _ _ _ _ _ 2 _ _ _ _ _ _ w hR hK (fun g W hb => impl_HalfHear.h2_ne g _ _ _ _ _ _ W hb (beq_eq_false_iff_ne.mpr he))
   ·
    rw [if_neg (by decide), if_neg (by decide), if_pos rfl] at hr2
    simp only [Prod.mk.injEq] at hr2
    obtain ⟨rfl, rfl, rfl, h4, h5, rfl, rfl⟩ := hr2
    exact impl_HalfHear.ok _ _ _ _ _ 3 _ _ _ _ _ _ w hR hK (fun g W hb => impl_HalfHear.h3 g _ _ _ _ _ _ _ _ W hb h4.symm h5.symm)
   ·
    rw [if_neg (by decide), if_neg (by decide), if_neg (by decide)] at hr2
    simp only [Prod.mk.injEq] at hr2
    obtain ⟨rfl, h2, h3, rfl, rfl, rfl, rfl⟩ := hr2
    exact impl_HalfHear.ok _ _ _ _ _ 4 _ _ _ _ _ _ w hR hK (fun g W hb => impl_HalfHear.h4 g _ _ _ _ _ _ _ _ W hb h2.symm h3.symm)
  ·
   rw [if_neg hk] at h
   have hr2 := Option.some.inj h
   simp only [Prod.mk.injEq] at hr2
   obtain ⟨rfl, rfl, rfl, rfl, rfl, rfl, rfl⟩ := hr2
   exact impl_HalfHear.ill1 _ _ _ _ _ _ _ w hR (by rw [impl_HalfHear.sub_dec, decide_eq_false hk])
 ·
  rw [if_neg (by simpa using hr)] at h
  have hr2 := Option.some.inj h
  simp only [Prod.mk.injEq] at hr2
  obtain ⟨rfl, rfl, rfl, rfl, rfl, rfl, rfl⟩ := hr2
  exact impl_HalfHear.ill0 _ _ _ _ _ _ _ w (by rw [impl_HalfSay.right_dec, decide_eq_false hr])

/-! ### laws_lwSame: function 7 -/
def laws_lwSame.f (a0_0 : Int) (a0_1 : Int) (a0_2 : Int) (a0_3 : Int) (a0_4 : Int) (a1_0 : Int) (a1_1 : Int) (a1_2 : Int) (a1_3 : Int) (a1_4 : Int) : Option (Bool) := if a0_2 = a1_4 then (if a0_1 = a1_3 then (if a1_2 = a0_4 then (some (a1_1 == a0_3)) else (some false)) else (some false)) else (some false)
set_option maxHeartbeats 8000000 in
set_option maxRecDepth 100000 in
theorem laws_lwSame.calls (a0_0 : Int) (a0_1 : Int) (a0_2 : Int) (a0_3 : Int) (a0_4 : Int) (a1_0 : Int) (a1_1 : Int) (a1_2 : Int) (a1_3 : Int) (a1_4 : Int) (r : Bool) (w : World) (h : laws_lwSame.f a0_0 a0_1 a0_2 a0_3 a0_4 a1_0 a1_1 a1_2 a1_3 a1_4 = some r) :
  Calls Try.prog 7 #[.agg #[.int .i64 a0_0, .int .i64 a0_1, .int .i64 a0_2, .int .i64 a0_3, .int .i64 a0_4], .agg #[.int .i64 a1_0, .int .i64 a1_1, .int .i64 a1_2, .int .i64 a1_3, .int .i64 a1_4]] w fun e w' => e = .returned (.bool r) ∧ Below w.heap.size w w' := by
 have hu24 := Try.underlying24
 have HB := Aside0.mk (Below.refl w.heap.size w)
 have H : (if a0_2 = a1_4 then (if a0_1 = a1_3 then (if a1_2 = a0_4 then (some (a1_1 == a0_3)) else (some false)) else (some false)) else (some false)) = some r := h
 clear h
 by_cases c3 : a0_2 = a1_4
 ·
  rw [if_pos c3] at H
  have c3b0 : (a0_2 == a1_4) = true := beq_iff_eq.mpr c3
  have c3b1 : (a0_2 != a1_4) = false := bne_eq_false_iff_eq.mpr c3
  clear c3
  by_cases c4 : a0_1 = a1_3
  ·
   rw [if_pos c4] at H
   have c4b0 : (a0_1 == a1_3) = true := beq_iff_eq.mpr c4
   have c4b1 : (a0_1 != a1_3) = false := bne_eq_false_iff_eq.mpr c4
   clear c4
   by_cases c5 : a1_2 = a0_4
   ·
    rw [if_pos c5] at H
    have c5b0 : (a1_2 == a0_4) = true := beq_iff_eq.mpr c5
    have c5b1 : (a1_2 != a0_4) = false := bne_eq_false_iff_eq.mpr c5
    clear c5
    obtain rfl := Option.some.inj H
    go_enter Try.func7, Try.ntmps7
    go_wp2_with (first | ((with_reducible refine gate_dst (N := 2) rfl ?_); refine box_event ?hg (N := 2) ?hd (cs := #[.int .i64 a0_0, .int .i64 a0_1, .int .i64 a0_2, .int .i64 a0_3, .int .i64 a0_4]) (t := 24) ?hr ?_; (case hd => rfl); (case hg => rfl); (case hr => first | (go_simp; done) | (go_simp; rfl)); intro gb115 hg w6 hbox hb; have n0_ := Aside0.mk (below_step zb1_2 hb); have n1_ := Aside0.mk (hbox); have n2_ := Aside0.mk ((zb2_2 : w.heap.size ≤ gb115)); have n3_ := Aside0.mk ((zb2_2 : w.heap.size ≤ gb115)); clear HB; have HB := n0_; have BK115 := n1_; have GW115 := n2_; have GE115 := n3_; clear n0_ n1_ n2_ n3_; clear hb hbox hg) | ((with_reducible refine gate_dst (N := 3) rfl ?_); refine box_event ?hg (N := 3) ?hd (cs := #[.int .i64 a1_0, .int .i64 a1_1, .int .i64 a1_2, .int .i64 a1_3, .int .i64 a1_4]) (t := 24) ?hr ?_; (case hd => rfl); (case hg => rfl); (case hr => first | (go_simp; done) | (go_simp; rfl)); intro gb116 hg w7 hbox hb; have n0_ := Aside0.mk (blk_below (g := gb115) (o := .cells #[.int .i64 a0_0, .int .i64 a0_1, .int .i64 a0_2, .int .i64 a0_3, .int .i64 a0_4] 24 (0, 0)) zb3_2 hb); have n1_ := Aside0.mk (below_step zb4_2 hb); have n2_ := Aside0.mk (hbox); have n3_ := Aside0.mk ((zb5_2 : w.heap.size ≤ gb116)); have n4_ := Aside0.mk ((zb5_2 : w.heap.size ≤ gb116)); have n5_ := Aside0.mk ((zb6_2 : gb115 ≠ gb116)); have n6_ := Aside0.mk ((zb7_2 : gb116 ≠ gb115)); clear BK115; clear HB; have BK115 := n0_; have HB := n1_; have BK116 := n2_; have GW116 := n3_; have GE116 := n4_; have NB115_116 := n5_; have NB116_115 := n6_; clear n0_ n1_ n2_ n3_ n4_ n5_ n6_; clear hb hbox hg; have hnb8 := NB115_116.out; have hnc8 := NB116_115.out; have hcz9_0 := bcq_2 BK115.out 0; have hcz9_1 := bcq_2 BK115.out 1; have hcz9_2 := bcq_2 BK115.out 2; have hcz9_3 := bcq_2 BK115.out 3; have hcz9_4 := bcq_2 BK115.out 4; have hfz9_0 := blk_frozen BK115.out 0; have hfz9_1 := blk_frozen BK115.out 1; have hfz9_2 := blk_frozen BK115.out 2; have hfz9_3 := blk_frozen BK115.out 3; have hfz9_4 := blk_frozen BK115.out 4; have hcz10_0 := bcq_2 BK116.out 0; have hcz10_1 := bcq_2 BK116.out 1; have hcz10_2 := bcq_2 BK116.out 2; have hcz10_3 := bcq_2 BK116.out 3; have hcz10_4 := bcq_2 BK116.out 4; have hfz10_0 := blk_frozen BK116.out 0; have hfz10_1 := blk_frozen BK116.out 1; have hfz10_2 := blk_frozen BK116.out 2; have hfz10_3 := blk_frozen BK116.out 3; have hfz10_4 := blk_frozen BK116.out 4))
    go_ret
    exact ⟨by first | rfl | (simp [errW_none, errW_some] <;> rfl) | (simp [*, errW_none, errW_some] <;> rfl), by repeat (first | (with_reducible first | exact HB.out | apply below_alloc | apply pw_below_drewN | apply below_drew1 | refine below_set ?_ GE115.out | refine below_set ?_ GE116.out) | exact HB.out)⟩
   ·
    rw [if_neg c5] at H
    have c5b0 : (a1_2 == a0_4) = false := beq_eq_false_iff_ne.mpr c5
    have c5b1 : (a1_2 != a0_4) = true := bne_iff_ne.mpr c5
    obtain rfl := Option.some.inj H
    go_enter Try.func7, Try.ntmps7
    go_wp2_with (first | ((with_reducible refine gate_dst (N := 2) rfl ?_); refine box_event ?hg (N := 2) ?hd (cs := #[.int .i64 a0_0, .int .i64 a0_1, .int .i64 a0_2, .int .i64 a0_3, .int .i64 a0_4]) (t := 24) ?hr ?_; (case hd => rfl); (case hg => rfl); (case hr => first | (go_simp; done) | (go_simp; rfl)); intro gb115 hg w11 hbox hb; have n0_ := Aside0.mk (below_step zb1_2 hb); have n1_ := Aside0.mk (hbox); have n2_ := Aside0.mk ((zb2_2 : w.heap.size ≤ gb115)); have n3_ := Aside0.mk ((zb2_2 : w.heap.size ≤ gb115)); clear HB; have HB := n0_; have BK115 := n1_; have GW115 := n2_; have GE115 := n3_; clear n0_ n1_ n2_ n3_; clear hb hbox hg) | ((with_reducible refine gate_dst (N := 3) rfl ?_); refine box_event ?hg (N := 3) ?hd (cs := #[.int .i64 a1_0, .int .i64 a1_1, .int .i64 a1_2, .int .i64 a1_3, .int .i64 a1_4]) (t := 24) ?hr ?_; (case hd => rfl); (case hg => rfl); (case hr => first | (go_simp; done) | (go_simp; rfl)); intro gb116 hg w12 hbox hb; have n0_ := Aside0.mk (blk_below (g := gb115) (o := .cells #[.int .i64 a0_0, .int .i64 a0_1, .int .i64 a0_2, .int .i64 a0_3, .int .i64 a0_4] 24 (0, 0)) zb3_2 hb); have n1_ := Aside0.mk (below_step zb4_2 hb); have n2_ := Aside0.mk (hbox); have n3_ := Aside0.mk ((zb5_2 : w.heap.size ≤ gb116)); have n4_ := Aside0.mk ((zb5_2 : w.heap.size ≤ gb116)); have n5_ := Aside0.mk ((zb6_2 : gb115 ≠ gb116)); have n6_ := Aside0.mk ((zb7_2 : gb116 ≠ gb115)); clear BK115; clear HB; have BK115 := n0_; have HB := n1_; have BK116 := n2_; have GW116 := n3_; have GE116 := n4_; have NB115_116 := n5_; have NB116_115 := n6_; clear n0_ n1_ n2_ n3_ n4_ n5_ n6_; clear hb hbox hg; have hnb13 := NB115_116.out; have hnc13 := NB116_115.out; have hcz14_0 := bcq_2 BK115.out 0; have hcz14_1 := bcq_2 BK115.out 1; have hcz14_2 := bcq_2 BK115.out 2; have hcz14_3 := bcq_2 BK115.out 3; have hcz14_4 := bcq_2 BK115.out 4; have hfz14_0 := blk_frozen BK115.out 0; have hfz14_1 := blk_frozen BK115.out 1; have hfz14_2 := blk_frozen BK115.out 2; have hfz14_3 := blk_frozen BK115.out 3; have hfz14_4 := blk_frozen BK115.out 4; have hcz15_0 := bcq_2 BK116.out 0; have hcz15_1 := bcq_2 BK116.out 1; have hcz15_2 := bcq_2 BK116.out 2; have hcz15_3 := bcq_2 BK116.out 3; have hcz15_4 := bcq_2 BK116.out 4; have hfz15_0 := blk_frozen BK116.out 0; have hfz15_1 := blk_frozen BK116.out 1; have hfz15_2 := blk_frozen BK116.out 2; have hfz15_3 := blk_frozen BK116.out 3; have hfz15_4 := blk_frozen BK116.out 4))
    go_ret
    exact ⟨by first | rfl | (simp [errW_none, errW_some] <;> rfl) | (simp [*, errW_none, errW_some] <;> rfl), by repeat (first | (with_reducible first | exact HB.out | apply below_alloc | apply pw_below_drewN | apply below_drew1 | refine below_set ?_ GE115.out | refine below_set ?_ GE116.out) | exact HB.out)⟩
  ·
   rw [if_neg c4] at H
   have c4b0 : (a0_1 == a1_3) = false := beq_eq_false_iff_ne.mpr c4
   have c4b1 : (a0_1 != a1_3) = true := bne_iff_ne.mpr c4
   obtain rfl := Option.some.inj H
   go_enter Try.func7, Try.ntmps7
   go_wp2_with (first | ((with_reducible refine gate_dst (N := 2) rfl ?_); refine box_event ?hg (N := 2) ?hd (cs := #[.int .i64 a0_0, .int .i64 a0_1, .int .i64 a0_2, .int .i64 a0_3, .int .i64 a0_4]) (t := 24) ?hr ?_; (case hd => rfl); (case hg => rfl); (case hr => first | (go_simp; done) | (go_simp; rfl)); intro gb115 hg w16 hbox hb; have n0_ := Aside0.mk (below_step zb1_2 hb); have n1_ := Aside0.mk (hbox); have n2_ := Aside0.mk ((zb2_2 : w.heap.size ≤ gb115)); have n3_ := Aside0.mk ((zb2_2 : w.heap.size ≤ gb115)); clear HB; have HB := n0_; have BK115 := n1_; have GW115 := n2_; have GE115 := n3_; clear n0_ n1_ n2_ n3_; clear hb hbox hg) | ((with_reducible refine gate_dst (N := 3) rfl ?_); refine box_event ?hg (N := 3) ?hd (cs := #[.int .i64 a1_0, .int .i64 a1_1, .int .i64 a1_2, .int .i64 a1_3, .int .i64 a1_4]) (t := 24) ?hr ?_; (case hd => rfl); (case hg => rfl); (case hr => first | (go_simp; done) | (go_simp; rfl)); intro gb116 hg w17 hbox hb; have n0_ := Aside0.mk (blk_below (g := gb115) (o := .cells #[.int .i64 a0_0, .int .i64 a0_1, .int .i64 a0_2, .int .i64 a0_3, .int .i64 a0_4] 24 (0, 0)) zb3_2 hb); have n1_ := Aside0.mk (below_step zb4_2 hb); have n2_ := Aside0.mk (hbox); have n3_ := Aside0.mk ((zb5_2 : w.heap.size ≤ gb116)); have n4_ := Aside0.mk ((zb5_2 : w.heap.size ≤ gb116)); have n5_ := Aside0.mk ((zb6_2 : gb115 ≠ gb116)); have n6_ := Aside0.mk ((zb7_2 : gb116 ≠ gb115)); clear BK115; clear HB; have BK115 := n0_; have HB := n1_; have BK116 := n2_; have GW116 := n3_; have GE116 := n4_; have NB115_116 := n5_; have NB116_115 := n6_; clear n0_ n1_ n2_ n3_ n4_ n5_ n6_; clear hb hbox hg; have hnb18 := NB115_116.out; have hnc18 := NB116_115.out; have hcz19_0 := bcq_2 BK115.out 0; have hcz19_1 := bcq_2 BK115.out 1; have hcz19_2 := bcq_2 BK115.out 2; have hcz19_3 := bcq_2 BK115.out 3; have hcz19_4 := bcq_2 BK115.out 4; have hfz19_0 := blk_frozen BK115.out 0; have hfz19_1 := blk_frozen BK115.out 1; have hfz19_2 := blk_frozen BK115.out 2; have hfz19_3 := blk_frozen BK115.out 3; have hfz19_4 := blk_frozen BK115.out 4; have hcz20_0 := bcq_2 BK116.out 0; have hcz20_1 := bcq_2 BK116.out 1; have hcz20_2 := bcq_2 BK116.out 2; have hcz20_3 := bcq_2 BK116.out 3; have hcz20_4 := bcq_2 BK116.out 4; have hfz20_0 := blk_frozen BK116.out 0; have hfz20_1 := blk_frozen BK116.out 1; have hfz20_2 := blk_frozen BK116.out 2; have hfz20_3 := blk_frozen BK116.out 3; have hfz20_4 := blk_frozen BK116.out 4))
   go_ret
   exact ⟨by first | rfl | (simp [errW_none, errW_some] <;> rfl) | (simp [*, errW_none, errW_some] <;> rfl), by repeat (first | (with_reducible first | exact HB.out | apply below_alloc | apply pw_below_drewN | apply below_drew1 | refine below_set ?_ GE115.out | refine below_set ?_ GE116.out) | exact HB.out)⟩
 ·
  rw [if_neg c3] at H
  have c3b0 : (a0_2 == a1_4) = false := beq_eq_false_iff_ne.mpr c3
  have c3b1 : (a0_2 != a1_4) = true := bne_iff_ne.mpr c3
  obtain rfl := Option.some.inj H
  go_enter Try.func7, Try.ntmps7
  go_wp2_with (first | ((with_reducible refine gate_dst (N := 2) rfl ?_); refine box_event ?hg (N := 2) ?hd (cs := #[.int .i64 a0_0, .int .i64 a0_1, .int .i64 a0_2, .int .i64 a0_3, .int .i64 a0_4]) (t := 24) ?hr ?_; (case hd => rfl); (case hg => rfl); (case hr => first | (go_simp; done) | (go_simp; rfl)); intro gb115 hg w21 hbox hb; have n0_ := Aside0.mk (below_step zb1_2 hb); have n1_ := Aside0.mk (hbox); have n2_ := Aside0.mk ((zb2_2 : w.heap.size ≤ gb115)); have n3_ := Aside0.mk ((zb2_2 : w.heap.size ≤ gb115)); clear HB; have HB := n0_; have BK115 := n1_; have GW115 := n2_; have GE115 := n3_; clear n0_ n1_ n2_ n3_; clear hb hbox hg) | ((with_reducible refine gate_dst (N := 3) rfl ?_); refine box_event ?hg (N := 3) ?hd (cs := #[.int .i64 a1_0, .int .i64 a1_1, .int .i64 a1_2, .int .i64 a1_3, .int .i64 a1_4]) (t := 24) ?hr ?_; (case hd => rfl); (case hg => rfl); (case hr => first | (go_simp; done) | (go_simp; rfl)); intro gb116 hg w22 hbox hb; have n0_ := Aside0.mk (blk_below (g := gb115) (o := .cells #[.int .i64 a0_0, .int .i64 a0_1, .int .i64 a0_2, .int .i64 a0_3, .int .i64 a0_4] 24 (0, 0)) zb3_2 hb); have n1_ := Aside0.mk (below_step zb4_2 hb); have n2_ := Aside0.mk (hbox); have n3_ := Aside0.mk ((zb5_2 : w.heap.size ≤ gb116)); have n4_ := Aside0.mk ((zb5_2 : w.heap.size ≤ gb116)); have n5_ := Aside0.mk ((zb6_2 : gb115 ≠ gb116)); have n6_ := Aside0.mk ((zb7_2 : gb116 ≠ gb115)); clear BK115; clear HB; have BK115 := n0_; have HB := n1_; have BK116 := n2_; have GW116 := n3_; have GE116 := n4_; have NB115_116 := n5_; have NB116_115 := n6_; clear n0_ n1_ n2_ n3_ n4_ n5_ n6_; clear hb hbox hg; have hnb23 := NB115_116.out; have hnc23 := NB116_115.out; have hcz24_0 := bcq_2 BK115.out 0; have hcz24_1 := bcq_2 BK115.out 1; have hcz24_2 := bcq_2 BK115.out 2; have hcz24_3 := bcq_2 BK115.out 3; have hcz24_4 := bcq_2 BK115.out 4; have hfz24_0 := blk_frozen BK115.out 0; have hfz24_1 := blk_frozen BK115.out 1; have hfz24_2 := blk_frozen BK115.out 2; have hfz24_3 := blk_frozen BK115.out 3; have hfz24_4 := blk_frozen BK115.out 4; have hcz25_0 := bcq_2 BK116.out 0; have hcz25_1 := bcq_2 BK116.out 1; have hcz25_2 := bcq_2 BK116.out 2; have hcz25_3 := bcq_2 BK116.out 3; have hcz25_4 := bcq_2 BK116.out 4; have hfz25_0 := blk_frozen BK116.out 0; have hfz25_1 := blk_frozen BK116.out 1; have hfz25_2 := blk_frozen BK116.out 2; have hfz25_3 := blk_frozen BK116.out 3; have hfz25_4 := blk_frozen BK116.out 4))
  go_ret
  exact ⟨by first | rfl | (simp [errW_none, errW_some] <;> rfl) | (simp [*, errW_none, errW_some] <;> rfl), by repeat (first | (with_reducible first | exact HB.out | apply below_alloc | apply pw_below_drewN | apply below_drew1 | refine below_set ?_ GE115.out | refine below_set ?_ GE116.out) | exact HB.out)⟩

end Go.Proofs.Ytohohkgeaclgjaa.QFnTwo
