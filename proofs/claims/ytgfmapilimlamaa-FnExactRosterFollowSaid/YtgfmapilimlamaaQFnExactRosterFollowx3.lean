-- laid by this session's own runner (wip/print2.py): not a printed file
import Derived.Test.YtgfmapilimlamaaInsertItem
import Derived.Test.YtgfmapilimlamaaQFnExactRosterFollowx0
namespace Go.Proofs.Ytgfmapilimlamaa.QFnExactRosterFollow
open Go.RowKit Go.Proofs.YtgfmapilimlamaaW.PrintWords Go.Proofs.YtgfmapilimlamaaW.PrintLast Go.Proofs.YtgfmapilimlamaaW.PrintMore
attribute [local go_sem] max2_int min2_int max_two min_two max_three min_three max_four min_four   -- for this text's walks alone
set_option linter.unusedVariables false
set_option linter.unusedSimpArgs false

theorem bcq_3 {w : World} {g t : Nat} {cs : Array Value} {v : Value} (h : w.heap[g]? = some (.cells cs t (0, 0))) (j : Nat) (e : cs[j]? = some v := by rfl) : w.cell? ⟨g, j, none⟩ = some v := (blk_cell h j).trans e
theorem zb0_3 {P : Prop} (h : P := by repeat (first | (with_reducible first | exact HB.out | apply below_alloc | apply pw_below_drewN | apply below_drew1) | exact HB.out)) : P := h
theorem zb1_3 {P : Prop} (h : P := by (with_reducible repeat (first | refine blk_drewN ?_ _ | refine blk_drew ?_ | refine blk_alloc ?_ _)); exact BK188.out) : P := h
theorem zb2_3 {P : Prop} (h : P := by repeat (first | (with_reducible first | exact HB.out | apply below_alloc | apply pw_below_drewN | apply below_drew1 | refine below_set ?_ GE188.out) | exact HB.out)) : P := h
theorem zb3_3 {P : Prop} (h : P := by (with_reducible repeat (first | refine blk_drewN ?_ _ | refine blk_drew ?_ | refine blk_alloc ?_ _)); exact BK189.out) : P := h
theorem zb4_3 {P : Prop} (h : P := by repeat (first | (with_reducible first | exact HB.out | apply below_alloc | apply pw_below_drewN | apply below_drew1 | refine below_set ?_ GE188.out | refine below_set ?_ GE189.out) | exact HB.out)) : P := h
theorem zb5_3 {P : Prop} (h : P := by first | (with_reducible assumption) | assumption) : P := h
/-! ### laws_toItem: function 14 -/
def laws_toItem.f (a0_0 : ByteArray) (a0_1 : ByteArray) (a0_2 : ByteArray) (a0_3 : Int) (a0_4 : Bool) : Option (ByteArray × ByteArray × ByteArray × Int × Bool) := some (a0_0, a0_1, a0_2, a0_3, a0_4)
set_option maxHeartbeats 8000000 in
set_option maxRecDepth 100000 in
theorem laws_toItem.calls (a0_0 : ByteArray) (a0_1 : ByteArray) (a0_2 : ByteArray) (a0_3 : Int) (a0_4 : Bool) (r1 : ByteArray) (r2 : ByteArray) (r3 : ByteArray) (r4 : Int) (r5 : Bool) (w : World) (h : laws_toItem.f a0_0 a0_1 a0_2 a0_3 a0_4 = some (r1, r2, r3, r4, r5)) :
    Calls Try.prog 14 #[.agg #[.string a0_0, .string a0_1, .string a0_2, .int .i64 a0_3, .bool a0_4]] w fun e w' => e = .returned (.agg #[.string r1, .string r2, .string r3, .int .i64 r4, .bool r5]) ∧ Below w.heap.size w w' := by
  have hu32 := Try.underlying32
  have hu33 := Try.underlying33
  have HB := Aside0.mk (Below.refl w.heap.size w)
  have H : (some (a0_0, a0_1, a0_2, a0_3, a0_4)) = some (r1, r2, r3, r4, r5) := h
  clear h
  simp only [Option.some.injEq, Prod.mk.injEq] at H
  obtain ⟨rfl, rfl, rfl, rfl, rfl⟩ := H
  go_enter Try.func14, Try.ntmps14
  go_wp2_with (first | ((with_reducible refine gate_dst (N := 1) rfl ?_); refine box_event ?hg (N := 1) ?hd (cs := #[.string a0_0, .string a0_1, .string a0_2, .int .i64 a0_3, .bool a0_4]) (t := 32) ?hr ?_; (case hd => rfl); (case hg => rfl); (case hr => first | (go_simp; done) | (go_simp; rfl)); intro gb188 hg w2 hbox hb; have n0_ := Aside0.mk (below_step zb0_3 hb); have n1_ := Aside0.mk (hbox); have n2_ := Aside0.mk ((by rw [hg]; exact (below_size zb0_3) : w.heap.size ≤ gb188)); have n3_ := Aside0.mk ((by rw [hg]; exact (below_size zb0_3) : w.heap.size ≤ gb188)); clear HB; have HB := n0_; have BK188 := n1_; have GW188 := n2_; have GE188 := n3_; clear n0_ n1_ n2_ n3_; clear hb hbox hg) | ((with_reducible refine gate_dst (N := 2) rfl ?_); refine box_event ?hg (N := 2) ?hd (cs := #[.string (⟨#[]⟩ : ByteArray), .string (⟨#[]⟩ : ByteArray), .string (⟨#[]⟩ : ByteArray), .int .i64 0, .bool false]) (t := 33) ?hr ?_; (case hd => rfl); (case hg => rfl); (case hr => first | (go_simp; done) | (go_simp; rfl)); intro gb189 hg w3 hbox hb; have n0_ := Aside0.mk (blk_below (g := gb188) (o := .cells #[.string a0_0, .string a0_1, .string a0_2, .int .i64 a0_3, .bool a0_4] 32 (0, 0)) zb1_3 hb); have n1_ := Aside0.mk (below_step zb2_3 hb); have n2_ := Aside0.mk (hbox); have n3_ := Aside0.mk ((by rw [hg]; exact (below_size zb2_3) : w.heap.size ≤ gb189)); have n4_ := Aside0.mk ((by rw [hg]; exact (below_size zb2_3) : w.heap.size ≤ gb189)); have n5_ := Aside0.mk ((by rw [hg]; exact Nat.ne_of_lt (blk_lt (g := gb188) (o := .cells #[.string a0_0, .string a0_1, .string a0_2, .int .i64 a0_3, .bool a0_4] 32 (0, 0)) zb1_3) : gb188 ≠ gb189)); have n6_ := Aside0.mk ((by rw [hg]; exact Nat.ne_of_gt (blk_lt (g := gb188) (o := .cells #[.string a0_0, .string a0_1, .string a0_2, .int .i64 a0_3, .bool a0_4] 32 (0, 0)) zb1_3) : gb189 ≠ gb188)); clear BK188; clear HB; have BK188 := n0_; have HB := n1_; have BK189 := n2_; have GW189 := n3_; have GE189 := n4_; have NB188_189 := n5_; have NB189_188 := n6_; clear n0_ n1_ n2_ n3_ n4_ n5_ n6_; clear hb hbox hg) | ((with_reducible refine gate_dst (N := 3) rfl ?_); refine box_event ?hg (N := 3) ?hd (cs := #[.string (⟨#[]⟩ : ByteArray), .string (⟨#[]⟩ : ByteArray), .string (⟨#[]⟩ : ByteArray), .int .i64 0, .bool false]) (t := 33) ?hr ?_; (case hd => rfl); (case hg => rfl); (case hr => first | (go_simp; done) | (go_simp; rfl)); intro gb190 hg w4 hbox hb; have n0_ := Aside0.mk (blk_below (g := gb188) (o := .cells #[.string a0_0, .string a0_1, .string a0_2, .int .i64 a0_3, .bool a0_4] 32 (0, 0)) zb1_3 hb); have n1_ := Aside0.mk (blk_below (g := gb189) (o := .cells #[.string (⟨#[]⟩ : ByteArray), .string (⟨#[]⟩ : ByteArray), .string (⟨#[]⟩ : ByteArray), .int .i64 0, .bool false] 33 (0, 0)) zb3_3 hb); have n2_ := Aside0.mk (below_step zb4_3 hb); have n3_ := Aside0.mk (hbox); have n4_ := Aside0.mk ((by rw [hg]; exact (below_size zb4_3) : w.heap.size ≤ gb190)); have n5_ := Aside0.mk ((by rw [hg]; exact (below_size zb4_3) : w.heap.size ≤ gb190)); have n6_ := Aside0.mk ((by rw [hg]; exact Nat.ne_of_lt (blk_lt (g := gb188) (o := .cells #[.string a0_0, .string a0_1, .string a0_2, .int .i64 a0_3, .bool a0_4] 32 (0, 0)) zb1_3) : gb188 ≠ gb190)); have n7_ := Aside0.mk ((by rw [hg]; exact Nat.ne_of_gt (blk_lt (g := gb188) (o := .cells #[.string a0_0, .string a0_1, .string a0_2, .int .i64 a0_3, .bool a0_4] 32 (0, 0)) zb1_3) : gb190 ≠ gb188)); have n8_ := Aside0.mk ((by rw [hg]; exact Nat.ne_of_lt (blk_lt (g := gb189) (o := .cells #[.string (⟨#[]⟩ : ByteArray), .string (⟨#[]⟩ : ByteArray), .string (⟨#[]⟩ : ByteArray), .int .i64 0, .bool false] 33 (0, 0)) zb3_3) : gb189 ≠ gb190)); have n9_ := Aside0.mk ((by rw [hg]; exact Nat.ne_of_gt (blk_lt (g := gb189) (o := .cells #[.string (⟨#[]⟩ : ByteArray), .string (⟨#[]⟩ : ByteArray), .string (⟨#[]⟩ : ByteArray), .int .i64 0, .bool false] 33 (0, 0)) zb3_3) : gb190 ≠ gb189)); clear BK188; clear BK189; clear HB; have BK188 := n0_; have BK189 := n1_; have HB := n2_; have BK190 := n3_; have GW190 := n4_; have GE190 := n5_; have NB188_190 := n6_; have NB190_188 := n7_; have NB189_190 := n8_; have NB190_189 := n9_; clear n0_ n1_ n2_ n3_ n4_ n5_ n6_ n7_ n8_ n9_; clear hb hbox hg; have hnb5 := NB188_189.out; have hnc5 := NB189_188.out; have hnb6 := NB188_190.out; have hnc6 := NB190_188.out; have hcz7_0 := bcq_3 BK188.out 0; have hcz7_1 := bcq_3 BK188.out 1; have hcz7_2 := bcq_3 BK188.out 2; have hcz7_3 := bcq_3 BK188.out 3; have hcz7_4 := bcq_3 BK188.out 4; have hfz7_0 := blk_frozen BK188.out 0; have hfz7_1 := blk_frozen BK188.out 1; have hfz7_2 := blk_frozen BK188.out 2; have hfz7_3 := blk_frozen BK188.out 3; have hfz7_4 := blk_frozen BK188.out 4; have hnb8 := NB190_189.out; have hnc8 := NB189_190.out; have hcz9_0 := bcq_3 BK190.out 0; have hcz9_1 := bcq_3 BK190.out 1; have hcz9_2 := bcq_3 BK190.out 2; have hcz9_3 := bcq_3 BK190.out 3; have hcz9_4 := bcq_3 BK190.out 4; have hfz9_0 := blk_frozen BK190.out 0; have hfz9_1 := blk_frozen BK190.out 1; have hfz9_2 := blk_frozen BK190.out 2; have hfz9_3 := blk_frozen BK190.out 3; have hfz9_4 := blk_frozen BK190.out 4; have hcz10_0 := bcq_3 BK189.out 0; have hcz10_1 := bcq_3 BK189.out 1; have hcz10_2 := bcq_3 BK189.out 2; have hcz10_3 := bcq_3 BK189.out 3; have hcz10_4 := bcq_3 BK189.out 4; have hfz10_0 := blk_frozen BK189.out 0; have hfz10_1 := blk_frozen BK189.out 1; have hfz10_2 := blk_frozen BK189.out 2; have hfz10_3 := blk_frozen BK189.out 3; have hfz10_4 := blk_frozen BK189.out 4))
  refine bodyPost_ret (results_cell_row rfl _ _ gb189 33 #[.string a0_0, .string a0_1, .string a0_2, .int .i64 a0_3, .bool a0_4] (0, 0) _ rfl (by (with_reducible repeat (first | refine blk_drewN ?_ _ | refine blk_drew ?_ | refine blk_alloc ?_ _)); refine blk_put (cs := #[.string a0_0, .string a0_1, .string a0_2, .int .i64 a0_3, .bool false]) ?_ 4 _ rfl; (with_reducible repeat (first | refine blk_drewN ?_ _ | refine blk_drew ?_ | refine blk_alloc ?_ _)); refine blk_put (cs := #[.string a0_0, .string a0_1, .string a0_2, .int .i64 0, .bool false]) ?_ 3 _ rfl; (with_reducible repeat (first | refine blk_drewN ?_ _ | refine blk_drew ?_ | refine blk_alloc ?_ _)); refine blk_put (cs := #[.string a0_0, .string a0_1, .string (⟨#[]⟩ : ByteArray), .int .i64 0, .bool false]) ?_ 2 _ rfl; (with_reducible repeat (first | refine blk_drewN ?_ _ | refine blk_drew ?_ | refine blk_alloc ?_ _)); refine blk_put (cs := #[.string a0_0, .string (⟨#[]⟩ : ByteArray), .string (⟨#[]⟩ : ByteArray), .int .i64 0, .bool false]) ?_ 1 _ rfl; (with_reducible repeat (first | refine blk_drewN ?_ _ | refine blk_drew ?_ | refine blk_alloc ?_ _)); refine blk_put (cs := #[.string (⟨#[]⟩ : ByteArray), .string (⟨#[]⟩ : ByteArray), .string (⟨#[]⟩ : ByteArray), .int .i64 0, .bool false]) ?_ 0 _ rfl; (with_reducible repeat (first | refine blk_drewN ?_ _ | refine blk_drew ?_ | refine blk_alloc ?_ _)); refine blk_far ?_ NB189_190.out _; (with_reducible repeat (first | refine blk_drewN ?_ _ | refine blk_drew ?_ | refine blk_alloc ?_ _)); refine blk_far ?_ NB189_190.out _; (with_reducible repeat (first | refine blk_drewN ?_ _ | refine blk_drew ?_ | refine blk_alloc ?_ _)); refine blk_far ?_ NB189_190.out _; (with_reducible repeat (first | refine blk_drewN ?_ _ | refine blk_drew ?_ | refine blk_alloc ?_ _)); refine blk_far ?_ NB189_190.out _; (with_reducible repeat (first | refine blk_drewN ?_ _ | refine blk_drew ?_ | refine blk_alloc ?_ _)); refine blk_far ?_ NB189_190.out _; (with_reducible repeat (first | refine blk_drewN ?_ _ | refine blk_drew ?_ | refine blk_alloc ?_ _)); exact BK189.out) Try.underlying33 rfl (by kernel_rfl)) rfl ?_
  exact ⟨by first | rfl | (simp [errW_none, errW_some] <;> rfl) | (simp [*, errW_none, errW_some] <;> rfl), by repeat (first | (with_reducible first | exact HB.out | apply below_alloc | apply pw_below_drewN | apply below_drew1 | refine below_set ?_ GE188.out | refine below_set ?_ GE189.out | refine below_set ?_ GE190.out) | exact HB.out)⟩

/-! ### laws_toItemS: function 6 -/
def laws_toItemS.l0 : Nat → List (S32) → List (S33) → Int → Option ((List (S33)))
  | 0, _, _, _ => none
  | k + 1, x0, x3, x4 => if x4 < (x0.length : Int) then (if 0 ≤ x4 then ((laws_toItem.f ((rd_T32 x0 x4).f0) ((rd_T32 x0 x4).f1) ((rd_T32 x0 x4).f2) ((rd_T32 x0 x4).f3) ((rd_T32 x0 x4).f4)).bind fun bt195 => (if x4 < (x3.length : Int) then (laws_toItemS.l0 k x0 (x3.set (x4 : Int).toNat (⟨bt195.1, bt195.2.1, bt195.2.2.1, bt195.2.2.2.1, bt195.2.2.2.2⟩ : S33)) (wrap64 (x4 + 1))) else (none))) else (none)) else (some x3)
def laws_toItemS.f (k : Nat) (l0 : List (S32)) : Option ((List (S33))) := if 0 ≤ (l0.length : Int) then (if ((l0.length : Int) : Int).toNat ≤ 4398046511104 then (laws_toItemS.l0 k l0 (List.replicate ((l0.length : Int) : Int).toNat z33) 0) else (none)) else (none)
theorem laws_toItemS.mono_l : ∀ k, (∀ y0 y1 y2, LeO (laws_toItemS.l0 k y0 y1 y2) (laws_toItemS.l0 (k + 1) y0 y1 y2))
  | 0 => fun _ _ _ r h => by simp [laws_toItemS.l0] at h
  | k + 1 => by
    have ih0 := laws_toItemS.mono_l k
    · intro y0 y1 y2
      unfold laws_toItemS.l0
      repeat' first
      | (with_reducible exact ih0 _ _ _)
      | (with_reducible exact LeO.refl _)
      | (with_reducible exact LeO.none _)
      | (with_reducible refine LeO.ite ?_ ?_)
      | (with_reducible refine LeO.bind ?_ (fun _ => ?_))
      | exact ih0 _ _ _
      | exact LeO.none _
      | refine LeO.ite ?_ ?_
      | refine LeO.bind ?_ (fun _ => ?_)
theorem laws_toItemS.mono : ∀ a0 k, LeO (laws_toItemS.f k a0) (laws_toItemS.f (k + 1) a0) := by
  intro a0 k
  have ih0 := laws_toItemS.mono_l k
  unfold laws_toItemS.f
  repeat' first
      | (with_reducible exact ih0 _ _ _)
      | (with_reducible exact LeO.refl _)
      | (with_reducible exact LeO.none _)
      | (with_reducible refine LeO.ite ?_ ?_)
      | (with_reducible refine LeO.bind ?_ (fun _ => ?_))
      | exact ih0 _ _ _
      | exact LeO.none _
      | refine LeO.ite ?_ ?_
      | refine LeO.bind ?_ (fun _ => ?_)
set_option maxHeartbeats 8000000 in
set_option maxRecDepth 100000 in
theorem laws_toItemS.calls (k : Nat) (A0 : Option Addr) (c0 : Nat) (l0 : List (S32)) (r : List (S33)) (w : World) (hr0 : Kd.C k32 w A0 l0.length l0) (hc0 : l0.length ≤ c0) (h : laws_toItemS.f k l0 = some r) :
    Calls Try.prog 6 #[.slice A0 l0.length c0] w fun e w' => ∃ v0_ : Value, e = .returned (v0_) ∧ Kd.R k33 33 w' w.heap.size (fun _ => True) v0_ r ∧ Below w.heap.size w w' := by
  have hu32 := Try.underlying32
  have hu33 := Try.underlying33
  have HR0 := Aside0.mk hr0
  have HC0 := Aside0.mk hc0
  clear hr0 hc0
  have HB := Aside0.mk (Below.refl w.heap.size w)
  have H : (if 0 ≤ (l0.length : Int) then (if ((l0.length : Int) : Int).toNat ≤ 4398046511104 then (laws_toItemS.l0 k l0 (List.replicate ((l0.length : Int) : Int).toNat z33) 0) else (none)) else (none)) = some r := h
  clear h
  by_cases c2 : 0 ≤ (l0.length : Int)
  · rw [if_pos c2] at H
    have c2b0 := eq_true c2
    have c2b1 : decide (0 ≤ (l0.length : Int)) = true := decide_eq_true c2
    clear c2
    by_cases c3 : ((l0.length : Int) : Int).toNat ≤ 4398046511104
    · rw [if_pos c3] at H
      have c3b0 := eq_true c3
      have c3b1 : decide (((l0.length : Int) : Int).toNat ≤ 4398046511104) = true := decide_eq_true c3
      clear c3
      obtain ⟨y191, hy191⟩ : ∃ y_ : List (S33), y_ = (List.replicate ((l0.length : Int) : Int).toNat z33) := ⟨_, rfl⟩
      replace H : (laws_toItemS.l0 k l0 y191 0) = some r := by first | (rw [hy191]; with_reducible exact H) | (have H2_ := (Option.bind_some _ _).symm.trans H; rw [hy191]; with_reducible exact H2_) | (have H2_ := (Option.bind_some _ _).symm.trans H; with_reducible exact H2_) | with_reducible exact H | (rw [hy191]; exact H) | exact H
      have Ny191 := Aside0.mk hy191
      clear hy191
      have H' := Aside0.mk H
      clear H
      go_enter Try.func6, Try.ntmps6
      go_wp2_with (first | ((with_reducible refine gate_dst (N := 7) rfl ?_); refine Kd.R_make k33 _ 33 rfl (N := 7) rfl 24 _ _ rfl (l0.length : Int) rfl rfl Try.underlying24 (.agg #[(.string ⟨#[]⟩), (.string ⟨#[]⟩), (.string ⟨#[]⟩), (.int .i64 0), (.bool false)]) 64 info33 rfl (by decide) (by omega) z33 (ok := fun _ => True) (okp := fun _ => True) (k33_mkM _ _ _ z33 ) (fun _ hk => hk) trivial (of_decide_eq_true zb5_3) (Nat.le_trans (Nat.mul_le_mul_right _ (of_decide_eq_true zb5_3 : (l0.length : Int).toNat ≤ 4398046511104)) (by omega)) (Below.refl _ _) (Nat.le_refl _) ?_; intro v192 w4 ho5 hb hg_ hnew_; clear hg_ hnew_; (first | rw [← Ny191.out] at ho5 | (simp only [Int.reduceToNat] at ho5; rw [← Ny191.out] at ho5)); have n0_ := Aside0.mk (Kd.R_lower ho5 (below_size zb0_3)); have n1_ := Aside0.mk (below_step zb0_3 hb); clear HB; have HO193 := n0_; have HB := n1_; clear n0_ n1_; clear hb ho5))
      go_loopg [4] k (fun kq v4 w' => ∃ (x3_1 : List (S33)) (x4_1 : Int), v4 = .int .i64 x4_1 ∧ Aside0 (laws_toItemS.l0 kq l0 x3_1 x4_1 = some r) ∧ Aside0 (kq ≤ k) ∧ Aside0 (Kd.R k33 33 w' w.heap.size (fun _ => True) v192 x3_1) ∧ Aside0 (Below w.heap.size w w'))
      case atStart => exact ⟨(y191), (0), (by first | rfl | (simp; done) | (simp [*]; done)), H', ⟨Nat.le_refl _⟩, ⟨by (with_reducible repeat (first | apply Kd.R_alloc | apply Kd.R_drewN | apply Kd.R_drew)); exact HO193.out⟩, ⟨by repeat (first | (with_reducible first | exact HB.out | apply below_alloc | apply pw_below_drewN | apply below_drew1) | exact HB.out)⟩⟩
      case round =>
        clear H'
        try clear c2
        try clear c2b0
        try clear c2b1
        try clear p2
        try clear c3
        try clear c3b0
        try clear c3b1
        obtain ⟨x3_1, x4_1, rfl, HA, HK1, HO_3, HB⟩ := hrel
        cases gk with
        | zero => exact absurd HA.out (by simp [laws_toItemS.l0])
        | succ k1 =>
          have H := HA.out
          clear HA
          simp only [laws_toItemS.l0] at H
          by_cases c6 : x4_1 < (l0.length : Int)
          · rw [if_pos c6] at H
            have c6b0 : decide (x4_1 < (l0.length : Int)) = true := decide_eq_true c6
            clear c6
            by_cases c7 : 0 ≤ x4_1
            · rw [if_pos c7] at H
              have c7b0 : decide (0 ≤ x4_1) = true := decide_eq_true c7
              clear c7
              replace H := Option.bind_eq_some_iff.mp H
              obtain ⟨⟨t195, t196, t197, t198, t199⟩, A80, H⟩ := H
              replace H : (if x4_1 < (x3_1.length : Int) then (laws_toItemS.l0 k1 l0 (x3_1.set (x4_1 : Int).toNat (⟨t195, t196, t197, t198, t199⟩ : S33)) (wrap64 (x4_1 + 1))) else (none)) = some r := H
              have A8 := Aside0.mk A80
              clear A80
              by_cases c9 : x4_1 < (x3_1.length : Int)
              · rw [if_pos c9] at H
                have c9b0 : decide (x4_1 < (x3_1.length : Int)) = true := decide_eq_true c9
                clear c9
                obtain ⟨y200, hy200⟩ : ∃ y_ : List (S33), y_ = (x3_1.set (x4_1 : Int).toNat (⟨t195, t196, t197, t198, t199⟩ : S33)) := ⟨_, rfl⟩
                replace H : (laws_toItemS.l0 k1 l0 y200 (wrap64 (x4_1 + 1))) = some r := by first | (rw [hy200]; with_reducible exact H) | (have H2_ := (Option.bind_some _ _).symm.trans H; rw [hy200]; with_reducible exact H2_) | (have H2_ := (Option.bind_some _ _).symm.trans H; with_reducible exact H2_) | with_reducible exact H | (rw [hy200]; exact H) | exact H
                have Ny200 := Aside0.mk hy200
                clear hy200
                have H' := Aside0.mk H
                clear H
                have p194 : 0 ≤ (x4_1 : Int) := of_decide_eq_true zb5_3
                have q194 : x4_1 < (l0.length : Int) := of_decide_eq_true zb5_3
                obtain ⟨ad194, e194, hx194_0, hx194_1, hx194_2, hx194_3, hx194_4⟩ := at_T32 HR0.out x4_1 p194 q194
                cases e194
                replace hx194_0 := (HB.out.cell (World.block_lt_of_cell? w _ hx194_0)).trans hx194_0
                replace hx194_1 := (HB.out.cell (World.block_lt_of_cell? w _ hx194_1)).trans hx194_1
                replace hx194_2 := (HB.out.cell (World.block_lt_of_cell? w _ hx194_2)).trans hx194_2
                replace hx194_3 := (HB.out.cell (World.block_lt_of_cell? w _ hx194_3)).trans hx194_3
                replace hx194_4 := (HB.out.cell (World.block_lt_of_cell? w _ hx194_4)).trans hx194_4
                replace p194 := eq_true p194
                replace q194 := eq_true q194
                go_wp2_with (first | ((with_reducible refine gate_callee (f := 14) rfl ?_); refine goesL_ (some 20) rfl rfl Try.func14 (by kernel_rfl) rfl #[.agg #[.string ((rd_T32 l0 x4_1).f0), .string ((rd_T32 l0 x4_1).f1), .string ((rd_T32 l0 x4_1).f2), .int .i64 ((rd_T32 l0 x4_1).f3), .bool ((rd_T32 l0 x4_1).f4)]] rfl (by (try simp only [List.map_toArray, List.map_cons, List.map_nil]); first | done | rfl | (simp only [List.length_drop, List.length_take]; rfl)) ?_; (with_reducible refine (laws_toItem.calls ((rd_T32 l0 x4_1).f0) ((rd_T32 l0 x4_1).f1) ((rd_T32 l0 x4_1).f2) ((rd_T32 l0 x4_1).f3) ((rd_T32 l0 x4_1).f4) t195 t196 t197 t198 t199 _ A8.out).mono ?_); rintro e w11 ⟨rfl, hb⟩; refine ⟨_, rfl, ?_⟩; have n0_ := Aside0.mk (Kd.R_below (by (with_reducible repeat (first | apply Kd.R_alloc | apply Kd.R_drewN | apply Kd.R_drew)); exact HO_3.out) hb); have n1_ := Aside0.mk (below_step zb0_3 hb); clear HO_3; clear HB; have HO_3 := n0_; have HB := n1_; clear n0_ n1_; (try clear hb); (try clear hb2); (try clear hk); (try clear hi); have p10 : 0 ≤ (x4_1 : Int) := of_decide_eq_true zb5_3; have q10 : (x4_1 : Int) < ((x3_1.length : Int) : Int) := of_decide_eq_true zb5_3; obtain ⟨go10, co10, eo10, gb10, gl10, cl10, HG10⟩ := Kd.R_form HO_3.out (by omega); (first | cases eo10 | (injection eo10 with ea_ en_ ec_; (first | subst ea_ | (injection ea_ with ea_; subst ea_)); subst ec_; clear en_)); have GB10 := Aside0.mk gb10; have GG10 := Aside0.mk HG10; clear gb10 gl10 HG10; obtain ⟨ce10, hcl10, hM10, hcc10, hfr10⟩ := Kd.R_elem HO_3.out z33 (x4_1 : Int) p10 q10; obtain rfl := k33_openM hM10; have hx10_0 : w11.cell? ⟨go10, (x4_1 : Int).toNat * 5, none⟩ = some (.string ((rd_T33 x3_1 x4_1).f0)) := hcc10 0 _ rfl; have hx10_1 : w11.cell? ⟨go10, (x4_1 : Int).toNat * 5 + 1, none⟩ = some (.string ((rd_T33 x3_1 x4_1).f1)) := hcc10 1 _ rfl; have hx10_2 : w11.cell? ⟨go10, (x4_1 : Int).toNat * 5 + 2, none⟩ = some (.string ((rd_T33 x3_1 x4_1).f2)) := hcc10 2 _ rfl; have hx10_3 : w11.cell? ⟨go10, (x4_1 : Int).toNat * 5 + 3, none⟩ = some (.int .i64 ((rd_T33 x3_1 x4_1).f3)) := hcc10 3 _ rfl; have hx10_4 : w11.cell? ⟨go10, (x4_1 : Int).toNat * 5 + 4, none⟩ = some (.bool ((rd_T33 x3_1 x4_1).f4)) := hcc10 4 _ rfl; have hf10_0 : w11.frozen? ⟨go10, (x4_1 : Int).toNat * 5, none⟩ = false := hfr10 0; have hf10_1 : w11.frozen? ⟨go10, (x4_1 : Int).toNat * 5 + 1, none⟩ = false := hfr10 1; have hf10_2 : w11.frozen? ⟨go10, (x4_1 : Int).toNat * 5 + 2, none⟩ = false := hfr10 2; have hf10_3 : w11.frozen? ⟨go10, (x4_1 : Int).toNat * 5 + 3, none⟩ = false := hfr10 3; have hf10_4 : w11.frozen? ⟨go10, (x4_1 : Int).toNat * 5 + 4, none⟩ = false := hfr10 4; clear hcl10 hcc10 hfr10 hM10; replace p10 := eq_true p10; replace q10 := eq_true q10; have HX12 := Aside0.mk (show Kd.R k33 33 w11 w.heap.size (fun _ => True) (.slice (some ⟨go10, 0, none⟩) x3_1.length co10) x3_1 from (by (with_reducible repeat (first | apply Kd.R_alloc | apply Kd.R_drewN | apply Kd.R_drew)); exact HO_3.out)); obtain ⟨ce12, hcl12, hM12, hcc12, hfr12⟩ := Kd.R_elem HX12.out z33 (x4_1 : Int) (of_decide_eq_true zb5_3) (by have h_ : (x4_1 : Int) < ((x3_1.length : Int) : Int) := of_decide_eq_true zb5_3; first | exact h_ | (have e_ := (Kd.R_reads' HO_3.out).1; omega) | simpa using h_); obtain rfl := k33_openM hM12; have HP12 := Kd.R_seg HX12.out (x4_1 : Int) (of_decide_eq_true zb5_3) (by have h_ : (x4_1 : Int) < ((x3_1.length : Int) : Int) := of_decide_eq_true zb5_3; first | exact h_ | (have e_ := (Kd.R_reads' HO_3.out).1; omega) | simpa using h_) (seg := [.string t195, .string t196, .string t197, .int .i64 t198, .bool t199]) (j := 0) hcl12 hcc12 (show 5 ≤ 5 from by decide) (x' := (⟨t195, t196, t197, t198, t199⟩ : S33)) (k33_mkM _ _ _ (⟨t195, t196, t197, t198, t199⟩ : S33) ) (fun _ hk => hk); have hx12_0 := hcc12 0 _ rfl; (try simp only [show (k33).sz = 5 from rfl, Nat.mul_one, Nat.add_zero] at hx12_0); have hf12_0 := hfr12 0; (try simp only [show (k33).sz = 5 from rfl, Nat.mul_one, Nat.add_zero] at hf12_0); have hx12_1 := hcc12 1 _ rfl; (try simp only [show (k33).sz = 5 from rfl, Nat.mul_one, Nat.add_zero] at hx12_1); have hf12_1 := hfr12 1; (try simp only [show (k33).sz = 5 from rfl, Nat.mul_one, Nat.add_zero] at hf12_1); have hx12_2 := hcc12 2 _ rfl; (try simp only [show (k33).sz = 5 from rfl, Nat.mul_one, Nat.add_zero] at hx12_2); have hf12_2 := hfr12 2; (try simp only [show (k33).sz = 5 from rfl, Nat.mul_one, Nat.add_zero] at hf12_2); have hx12_3 := hcc12 3 _ rfl; (try simp only [show (k33).sz = 5 from rfl, Nat.mul_one, Nat.add_zero] at hx12_3); have hf12_3 := hfr12 3; (try simp only [show (k33).sz = 5 from rfl, Nat.mul_one, Nat.add_zero] at hf12_3); have hx12_4 := hcc12 4 _ rfl; (try simp only [show (k33).sz = 5 from rfl, Nat.mul_one, Nat.add_zero] at hx12_4); have hf12_4 := hfr12 4; (try simp only [show (k33).sz = 5 from rfl, Nat.mul_one, Nat.add_zero] at hf12_4); clear hcl12 hcc12 hfr12 hM12) | ((with_reducible refine gate_store (t := 33) (p := 21) rfl ?_); refine store_event (t := 33) (p := 21) (v := ?vo_w13) (w1 := (((((w11.setCell ⟨go10, (x4_1 : Int).toNat * 5, none⟩ (.string t195)).setCell ⟨go10, (x4_1 : Int).toNat * 5 + 1, none⟩ (.string t196)).setCell ⟨go10, (x4_1 : Int).toNat * 5 + 2, none⟩ (.string t197)).setCell ⟨go10, (x4_1 : Int).toNat * 5 + 3, none⟩ (.int .i64 t198)).setCell ⟨go10, (x4_1 : Int).toNat * 5 + 4, none⟩ (.bool t199))) ?hg ?ho ?hn ?hr ?_; (case ho => rfl); (case hg => rfl); (case hn => rfl); (case hr => first | (go_simp; done) | (go_simp; rfl)); intro w13 hw; have hg : w11.grownBy w13 (some go10) := (by rw [hw]; exact HP12.2); have hp_ : Kd.R k33 33 w13 w.heap.size (fun _ => True) (.slice (some ⟨go10, 0, none⟩) x3_1.length co10) y200 := (by rw [hw, Ny200.out]; exact HP12.1); clear HP12; have n0_ := Aside0.mk (hp_); have n1_ := Aside0.mk ((by rw [hw]; exact below_set (below_set (below_set (below_set (below_set (HB.out) GB10.out) GB10.out) GB10.out) GB10.out) GB10.out : Below w.heap.size w w13)); clear HO_3; clear HB; have HO_3 := n0_; have HB := n1_; clear n0_ n1_; clear hg hw hp_))
                go_roundg k1
                case measure => have := HK1.out; omega
                case rel => exact ⟨(y200), (wrap64 (x4_1 + 1)), (by first | rfl | (simp; done) | (simp [*]; done)), H', ⟨by have := HK1.out; omega⟩, ⟨by (with_reducible repeat (first | apply Kd.R_alloc | apply Kd.R_drewN | apply Kd.R_drew)); exact HO_3.out⟩, ⟨by repeat (first | (with_reducible first | exact HB.out | apply below_alloc | apply pw_below_drewN | apply below_drew1) | exact HB.out)⟩⟩
              · rw [if_neg c9] at H
                exact absurd H (by simp)
            · rw [if_neg c7] at H
              exact absurd H (by simp)
          · rw [if_neg c6] at H
            have c6b0 : decide (x4_1 < (l0.length : Int)) = false := decide_eq_false c6
            clear c6
            obtain rfl := Option.some.inj H
            go_wp2
            go_ret
            exact ⟨_, by first | rfl | (simp [errW_none, errW_some] <;> rfl) | (simp [*, errW_none, errW_some] <;> rfl), by (with_reducible repeat (first | apply Kd.R_alloc | apply Kd.R_drewN | apply Kd.R_drew)); exact HO_3.out, by repeat (first | (with_reducible first | exact HB.out | apply below_alloc | apply pw_below_drewN | apply below_drew1) | exact HB.out)⟩
    · rw [if_neg c3] at H
      exact absurd H (by simp)
  · rw [if_neg c2] at H
    exact absurd H (by simp)

/-! ### impl_Item_15: function 15: by hand ('== nil' of a slice of structs) -/
def impl_Item_15.f (l0 : List (S33)) : Option (List (S33)) := if l0.length < 2199023255552 then some l0 else none
set_option maxRecDepth 100000 in
theorem impl_Item_15.calls (A0 : Option Addr) (c0 : Nat) (l0 : List (S33)) (r : List (S33)) (w : World) (hr0 : Kd.C k33 w A0 l0.length l0) (hc0 : l0.length ≤ c0) (h : impl_Item_15.f l0 = some r) :
    Calls Try.prog 15 #[.slice A0 l0.length c0] w fun e w' => ∃ v0_ : Value, e = .returned (v0_) ∧ Kd.R k33 33 w' w.heap.size (fun _ => True) v0_ r ∧ Below w.heap.size w w' := by
  unfold impl_Item_15.f at h
  by_cases hlen : l0.length < 2199023255552
  · rw [if_pos hlen] at h
    obtain rfl := Option.some.inj h
    have HR := Aside0.mk hr0
    have HC := Aside0.mk hc0
    have LM := Aside0.mk hlen
    clear hr0 hc0 hlen h
    have q38 : ∀ (w : World) (a : Option Addr) (n c n' c' : Nat), (binOp .eql 24 (.slice a n c) (.slice none n' c')).run Try.prog w = .ok (.bool a.isNone) w := by
      have e38 : ∀ (d : Nat) (w : World) (a : Option Addr) (n c n' c' : Nat), (Op.equalIn (d + 1) 24 (.slice a n c) (.slice none n' c')).run Try.prog w = .ok a.isNone w := fun d w a n c n' c' => by cases a <;> simp [Op.equalIn, run_underlying Try.underlying24]
      intro w a n c n' c'
      simp only [binOp]
      simp [Op.equal, Op.maxDepth, e38 9999]
    obtain ⟨y1, hy1⟩ : ∃ y_ : List S33, y_ = [] := ⟨_, rfl⟩
    have NY := Aside0.mk hy1
    clear hy1
    go_enter Try.func15, Try.ntmps15
    cases A0 with
    | none =>
      go_wp2
      go_ret
      have h0 : l0 = [] := by
        have hx := HR.out.2.2
        cases l0 with
        | nil => rfl
        | cons x l =>
          obtain ⟨a, ha, _⟩ := hx (by simp)
          cases ha
      subst h0
      exact ⟨_, rfl, Kd.R_nil _ _ _ _ _, Below.refl _ _⟩
    | some ad =>
      go_wp2_with (first | ((with_reducible refine gate_dst (N := 5) rfl ?_); refine Kd.R_lit k33 _ 33 ?hg (N := 5) ?hd (xs := ([] : List (S33))) (inner := []) (ok := fun _ => True) (okp := fun _ => True) ?hr ?hp (fun _ hk => hk) trivial (Below.refl _ _) (Nat.le_refl _) (by simp) ?_; (case hd => rfl); (case hg => rfl); (case hr => first | (go_simp; done) | (go_simp; rfl)); (case hp => exact (Reps.none _ _)); intro v1 w5 ho6 hb hg_ hnew_; clear hg_ hnew_; rw [← NY.out] at ho6; have HO := Aside0.mk ho6; have HB := Aside0.mk hb; clear hb ho6) | ((with_reducible refine gate_builtin (b := .append) (xs := #[.tmp 5, .tmp 6]) rfl ?_); at_builtin; refine Kd.R_append_rows k33 (w0 := w) w.heap.size rfl (.tmp 5) (.tmp 6) 24 33 (.agg #[(.string ⟨#[]⟩), (.string ⟨#[]⟩), (.string ⟨#[]⟩), (.int .i64 0), (.bool false)]) 64 rfl Try.underlying24 info33 rfl (by decide) (by omega) v1 y1 l0 _ _ _ (fun _ => True) (fun _ => False) rfl rfl ?aO ?aR (fun _ _ h => h) (fun _ h => h.elim) ?aF ?aB ?aS ?aL ?_; (case aR => exact (Kd.C_below HR.out HB.out)); (case aB => exact HB.out); (case aF => exact (fun _ _ => trivial)); (case aO => exact HO.out); (case aS => exact (below_size HB.out)); (case aL => have := LM.out; rw [NY.out]; simp only [List.length_nil]; omega); intro v2 w9 ho hb hg hat; have HO2 := Aside0.mk ho; have HB2 := Aside0.mk hb; clear ho hb hg hat))
      go_ret
      refine ⟨_, rfl, ?_, HB2.out⟩
      have h2 := HO2.out
      rw [NY.out, List.nil_append] at h2
      exact Kd.R_mono h2 (fun _ _ => trivial)
  · rw [if_neg hlen] at h
    exact absurd h (by simp)

-- NOT PRINTED: function 22 (impl_Item_string)

/-! ### impl_itemAt: function 17: by hand (a closure that compares, handed to the library's binary search) -/
def impl_itemAt.cmpS (x y : ByteArray) : Int := if Op.bytesLess x.toList y.toList = true then -1 else if (x.toList == y.toList) = true then 0 else 1
/-- The library's binary search: fuel, from, to. -/
def impl_itemAt.bs (l : List (S33)) (y : ByteArray) : Nat → Nat → Nat → Nat
  | 0, i, _ => i
  | k + 1, i, j => if i < j then (if impl_itemAt.cmpS (rd_T33 l (((i + j) / 2 : Nat) : Int)).f0 y < 0 then impl_itemAt.bs l y k ((i + j) / 2 + 1) j else impl_itemAt.bs l y k i ((i + j) / 2)) else i
def impl_itemAt.found (l : List (S33)) (y : ByteArray) (i : Nat) : Bool := if i < l.length then (impl_itemAt.cmpS (rd_T33 l (i : Int)).f0 y == 0) else false
def impl_itemAt.f (l0 : List (S33)) (a1 : ByteArray) : Option (Int × Bool) := if l0.length < 4611686018427387904 then some (((impl_itemAt.bs l0 a1 (l0.length + 1) 0 l0.length : Nat) : Int), impl_itemAt.found l0 a1 (impl_itemAt.bs l0 a1 (l0.length + 1) 0 l0.length)) else none
set_option maxHeartbeats 8000000 in
set_option maxRecDepth 100000 in
theorem impl_itemAt.nan (x : ByteArray) (w : World) : Calls Try.prog 27 #[.string x] w fun e w' => e = .returned (.bool false) ∧ Drawn0 w w' := by
  go_enter Try.func27, Try.ntmps27
  go_wp2
  go_ret
  exact ⟨by simp, Drawn0.refl _⟩
set_option maxHeartbeats 8000000 in
set_option maxRecDepth 100000 in
theorem impl_itemAt.cmp (x y : ByteArray) (w : World) : Calls Try.prog 24 #[.string x, .string y] w fun e w' => e = .returned (.int .i64 (impl_itemAt.cmpS x y)) ∧ Below w.heap.size w w' := by
  have hgt : ∀ W, (binOp .gtr 9 (.string x) (.string y)).run Try.prog W = .ok (.bool (!Op.bytesLess x.toList y.toList && !(x.toList == y.toList))) W := fun W => by simp [binOp, Op.stringOp]
  unfold impl_itemAt.cmpS
  by_cases c1 : Op.bytesLess x.toList y.toList = true
  · rw [if_pos c1]
    go_enter Try.func24, Try.ntmps24
    go_wp2_with (go_at_call 27; (with_reducible refine (impl_itemAt.nan _ _).mono ?_); rintro e w' ⟨rfl, ⟨nd, rfl⟩⟩)
    go_ret
    exact ⟨rfl, by repeat (first | (with_reducible first | exact Below.refl _ _ | apply pw_below_drewN | apply below_drew) | exact Below.refl _ _)⟩
  · rw [if_neg c1]
    have c1b := Bool.eq_false_iff.mpr c1
    by_cases c2 : (x.toList == y.toList) = true
    · rw [if_pos c2]
      go_enter Try.func24, Try.ntmps24
      go_wp2_with (go_at_call 27; (with_reducible refine (impl_itemAt.nan _ _).mono ?_); rintro e w' ⟨rfl, ⟨nd, rfl⟩⟩)
      go_ret
      exact ⟨rfl, by repeat (first | (with_reducible first | exact Below.refl _ _ | apply pw_below_drewN | apply below_drew) | exact Below.refl _ _)⟩
    · rw [if_neg c2]
      have c2b := Bool.eq_false_iff.mpr c2
      go_enter Try.func24, Try.ntmps24
      go_wp2_with (go_at_call 27; (with_reducible refine (impl_itemAt.nan _ _).mono ?_); rintro e w' ⟨rfl, ⟨nd, rfl⟩⟩)
      go_ret
      exact ⟨rfl, by repeat (first | (with_reducible first | exact Below.refl _ _ | apply pw_below_drewN | apply below_drew) | exact Below.refl _ _)⟩
set_option maxHeartbeats 8000000 in
set_option maxRecDepth 100000 in
theorem impl_itemAt.clo (x : S33) (y : ByteArray) (w : World) :
    Calls Try.prog 23 #[.agg #[.string x.f0, .string x.f1, .string x.f2, .int .i64 x.f3, .bool x.f4], .string y] w fun e w' => e = .returned (.int .i64 (impl_itemAt.cmpS x.f0 y)) ∧ Below w.heap.size w w' := by
  have hu33 := Try.underlying33
  go_enter Try.func23, Try.ntmps23
  go_wp2_with (first | ((with_reducible refine gate_dst (N := 2) rfl ?_); refine box_event ?hg (N := 2) ?hd (cs := #[.string x.f0, .string x.f1, .string x.f2, .int .i64 x.f3, .bool x.f4]) (t := 33) ?hr ?_; (case hd => rfl); (case hg => rfl); (case hr => first | (go_simp; done) | (go_simp; rfl)); intro gb hg2 w3 hbox hb; have BK := Aside0.mk hbox; have HB := Aside0.mk hb; clear hbox hb hg2; have hc0 : w3.cell? ⟨gb, 0, none⟩ = some (.string x.f0) := (blk_cell BK.out 0).trans rfl; have hf0 := blk_frozen BK.out 0) | (go_at_call 24; (with_reducible refine (impl_itemAt.cmp _ _ _).mono ?_); rintro e w' ⟨rfl, hb⟩; have HB2 := Aside0.mk (below_step HB.out hb); clear hb))
  go_ret
  exact ⟨rfl, HB2.out⟩
set_option maxHeartbeats 8000000 in
set_option maxRecDepth 100000 in
theorem impl_itemAt.scan (y : ByteArray) (A : Option Addr) (c : Nat) (l : List S33) (w : World) (hr : Kd.C k33 w A l.length l) (hc : l.length ≤ c) (hbig0 : l.length < 4611686018427387904) :
    Calls Try.prog 22 #[.slice A l.length c, .string y, .func (.func 23) #[] #[]] w fun e w' => e = .returned (.tuple #[.int .i64 ((impl_itemAt.bs l y (l.length + 1) 0 l.length : Nat) : Int), .bool (impl_itemAt.found l y (impl_itemAt.bs l y (l.length + 1) 0 l.length))]) ∧ Below w.heap.size w w' := by
  have hu33 := Try.underlying33
  have HR := Aside0.mk hr
  have HC := Aside0.mk hc
  have HBIG := Aside0.mk hbig0
  clear hr hc hbig0
  obtain ⟨R, hR⟩ : ∃ R, R = impl_itemAt.bs l y (l.length + 1) 0 l.length := ⟨_, rfl⟩
  rw [← hR]
  have HRR := Aside0.mk hR
  clear hR
  go_enter Try.func22, Try.ntmps22
  go_wp2
  go_loopg [9, 10] (l.length + 1) (fun gg s9 s10 wr => ∃ i j : Nat, i ≤ j ∧ j ≤ l.length ∧ j - i < gg ∧ s9 = .int .i64 i ∧ s10 = .int .i64 j ∧ Aside0 (Below w.heap.size w wr) ∧ Aside0 (impl_itemAt.bs l y gg i j = R))
  case atStart => exact ⟨0, l.length, Nat.zero_le _, Nat.le_refl _, by omega, rfl, rfl, ⟨Below.refl _ _⟩, ⟨HRR.out.symm⟩⟩
  case round =>
    obtain ⟨i, j, hij, hj, hgg, rfl, rfl, HB, HI⟩ := hrel
    have hbig := HBIG.out
    by_cases c4 : i < j
    · have hltz : (i : Int) < (j : Int) := by omega
      have hb0 : decide ((i : Int) < (j : Int)) = true := decide_eq_true hltz
      obtain ⟨ad, e, hx0, hx1, hx2, hx3, hx4⟩ := at_T33 HR.out (((i + j) / 2 : Nat) : Int) (by omega) (by omega)
      cases e
      rw [Int.toNat_natCast] at hx0 hx1 hx2 hx3 hx4
      replace hx0 := (HB.out.cell (World.block_lt_of_cell? w _ hx0)).trans hx0
      replace hx1 := (HB.out.cell (World.block_lt_of_cell? w _ hx1)).trans hx1
      replace hx2 := (HB.out.cell (World.block_lt_of_cell? w _ hx2)).trans hx2
      replace hx3 := (HB.out.cell (World.block_lt_of_cell? w _ hx3)).trans hx3
      replace hx4 := (HB.out.cell (World.block_lt_of_cell? w _ hx4)).trans hx4
      obtain ⟨x, hX⟩ : ∃ x, x = rd_T33 l (((i + j) / 2 : Nat) : Int) := ⟨_, rfl⟩
      rw [← hX] at hx0 hx1 hx2 hx3 hx4
      have p1 : (0 ≤ (((i + j) / 2 : Nat) : Int)) = True := eq_true (by omega)
      have p2 : ((((i + j) / 2 : Nat) : Int) < (l.length : Int)) = True := eq_true (by omega)
      cases gk with
      | zero => omega
      | succ k1 =>
        have hbs := HI.out
        unfold impl_itemAt.bs at hbs
        rw [if_pos c4, ← hX] at hbs
        have HX := Aside0.mk hX
        clear hX
        by_cases hq : impl_itemAt.cmpS x.f0 y < 0
        · rw [if_pos hq] at hbs
          have HBS := Aside0.mk hbs
          have hqd : decide (impl_itemAt.cmpS x.f0 y < 0) = true := decide_eq_true hq
          clear hbs hq
          go_wp2_with (go_at_call 23; (with_reducible refine (impl_itemAt.clo x y _).mono ?_); rintro e w' ⟨rfl, hb⟩; have HB2 := Aside0.mk (below_step HB.out hb); clear hb)
          go_roundg k1
          case measure => omega
          case rel => exact ⟨(i + j) / 2 + 1, j, by omega, hj, by omega, (by first | rfl | (congr 1; first | omega | (unfold wrap64; omega))), rfl, HB2, HBS⟩
        · rw [if_neg hq] at hbs
          have HBS := Aside0.mk hbs
          have hqd : decide (impl_itemAt.cmpS x.f0 y < 0) = false := decide_eq_false hq
          clear hbs hq
          go_wp2_with (go_at_call 23; (with_reducible refine (impl_itemAt.clo x y _).mono ?_); rintro e w' ⟨rfl, hb⟩; have HB2 := Aside0.mk (below_step HB.out hb); clear hb)
          go_roundg k1
          case measure => omega
          case rel => exact ⟨i, (i + j) / 2, by omega, by omega, by omega, rfl, (by first | rfl | (congr 1; omega)), HB2, HBS⟩
    · have hltz : ¬ (i : Int) < (j : Int) := by omega
      have hb0 : decide ((i : Int) < (j : Int)) = false := decide_eq_false hltz
      have hRi : R = i := by
        cases gk with
        | zero => omega
        | succ k1 =>
          have hbs := HI.out
          unfold impl_itemAt.bs at hbs
          rw [if_neg c4] at hbs
          exact hbs.symm
      subst hRi
      by_cases c5 : R < l.length
      · have h5 : decide ((R : Int) < (l.length : Int)) = true := decide_eq_true (by omega)
        obtain ⟨ad, e, hx0, hx1, hx2, hx3, hx4⟩ := at_T33 HR.out (R : Int) (by omega) (by omega)
        cases e
        rw [Int.toNat_natCast] at hx0 hx1 hx2 hx3 hx4
        replace hx0 := (HB.out.cell (World.block_lt_of_cell? w _ hx0)).trans hx0
        replace hx1 := (HB.out.cell (World.block_lt_of_cell? w _ hx1)).trans hx1
        replace hx2 := (HB.out.cell (World.block_lt_of_cell? w _ hx2)).trans hx2
        replace hx3 := (HB.out.cell (World.block_lt_of_cell? w _ hx3)).trans hx3
        replace hx4 := (HB.out.cell (World.block_lt_of_cell? w _ hx4)).trans hx4
        have p1 : (0 ≤ (R : Int)) = True := eq_true (by omega)
        have p2 : ((R : Int) < (l.length : Int)) = True := eq_true (by omega)
        have FND : Aside0 (impl_itemAt.found l y R = (impl_itemAt.cmpS (rd_T33 l (R : Int)).f0 y == 0)) := ⟨by unfold impl_itemAt.found; rw [if_pos c5]⟩
        go_wp2_with (go_at_call 23; (with_reducible refine (impl_itemAt.clo (rd_T33 l (R : Int)) y _).mono ?_); rintro e w' ⟨rfl, hb⟩; have HB2 := Aside0.mk (below_step HB.out hb); clear hb)
        go_ret2
        exact ⟨by rw [FND.out]; rfl, HB2.out⟩
      · have h5 : decide ((R : Int) < (l.length : Int)) = false := decide_eq_false (by omega)
        have FND : Aside0 (impl_itemAt.found l y R = false) := ⟨by unfold impl_itemAt.found; rw [if_neg c5]⟩
        go_wp2
        go_ret2
        exact ⟨by rw [FND.out]; rfl, HB.out⟩
set_option maxHeartbeats 8000000 in
set_option maxRecDepth 100000 in
theorem impl_itemAt.calls (A0 : Option Addr) (c0 : Nat) (l0 : List (S33)) (a1 : ByteArray) (r1 : Int) (r2 : Bool) (w : World) (hr0 : Kd.C k33 w A0 l0.length l0) (hc0 : l0.length ≤ c0) (h : impl_itemAt.f l0 a1 = some (r1, r2)) :
    Calls Try.prog 17 #[.slice A0 l0.length c0, .string a1] w fun e w' => e = .returned (.tuple #[.int .i64 r1, .bool r2]) ∧ Below w.heap.size w w' := by
  unfold impl_itemAt.f at h
  by_cases hl : l0.length < 4611686018427387904
  · rw [if_pos hl] at h
    simp only [Option.some.injEq, Prod.mk.injEq] at h
    obtain ⟨h1, h2⟩ := h
    have hs := impl_itemAt.scan a1 A0 c0 l0 w hr0 hc0 hl
    rw [h1, h2] at hs
    have HS := Aside0.mk hs
    clear hs hr0 hc0 hl h1 h2
    go_enter Try.func17, Try.ntmps17
    go_wp2_with (go_at_call 22; (with_reducible refine HS.out.mono ?_); rintro e w' ⟨rfl, hb⟩; have HB2 := Aside0.mk hb; clear hb)
    go_ret2
    exact ⟨rfl, HB2.out⟩
  · rw [if_neg hl] at h
    exact absurd h (by simp)

-- NOT PRINTED: function 25 (impl_Item_25)

/-! ### impl_placed: function 16: by hand -/
def impl_placed.f (l0 : List (S33)) (a1_0 : ByteArray) (a1_1 : ByteArray) (a1_2 : ByteArray) (a1_3 : Int) (a1_4 : Bool) : Option (List (S33)) :=
  if l0.length < 1099511627776 then (if impl_itemAt.found l0 a1_0 (impl_itemAt.bs l0 a1_0 (l0.length + 1) 0 l0.length) = true then some (l0.set (impl_itemAt.bs l0 a1_0 (l0.length + 1) 0 l0.length) (⟨a1_0, a1_1, a1_2, a1_3, a1_4⟩ : S33)) else some (l0.take (impl_itemAt.bs l0 a1_0 (l0.length + 1) 0 l0.length) ++ (⟨a1_0, a1_1, a1_2, a1_3, a1_4⟩ : S33) :: l0.drop (impl_itemAt.bs l0 a1_0 (l0.length + 1) 0 l0.length))) else none
theorem impl_placed.bs_le (l : List S33) (y : ByteArray) : ∀ k i j, i ≤ j → impl_itemAt.bs l y k i j ≤ j
  | 0, i, j, h => by simpa [impl_itemAt.bs] using h
  | k + 1, i, j, h => by
    unfold impl_itemAt.bs
    split
    · split
      · exact impl_placed.bs_le l y k _ _ (by omega)
      · exact Nat.le_trans (impl_placed.bs_le l y k _ _ (by omega)) (by omega)
    · exact h
set_option maxHeartbeats 4000000 in
set_option maxRecDepth 1000000 in
theorem impl_placed.calls (A0 : Option Addr) (c0 : Nat) (l0 : List (S33)) (a1_0 : ByteArray) (a1_1 : ByteArray) (a1_2 : ByteArray) (a1_3 : Int) (a1_4 : Bool) (r : List (S33)) (w : World) (hr0 : Kd.C k33 w A0 l0.length l0) (hc0 : l0.length ≤ c0) (h : impl_placed.f l0 a1_0 a1_1 a1_2 a1_3 a1_4 = some r) :
    Calls Try.prog 16 #[.slice A0 l0.length c0, .agg #[.string a1_0, .string a1_1, .string a1_2, .int .i64 a1_3, .bool a1_4]] w fun e w' => ∃ v0_ : Value, e = .returned (v0_) ∧ Kd.R k33 33 w' w.heap.size (fun _ => True) v0_ r ∧ Below w.heap.size w w' := by
  unfold impl_placed.f at h
  by_cases hl : l0.length < 1099511627776
  · rw [if_pos hl] at h
    obtain ⟨kk, hkk⟩ : ∃ kk, kk = impl_itemAt.bs l0 a1_0 (l0.length + 1) 0 l0.length := ⟨_, rfl⟩
    rw [← hkk] at h
    obtain ⟨fd, hfd⟩ : ∃ fd, fd = impl_itemAt.found l0 a1_0 kk := ⟨_, rfl⟩
    have hat : impl_itemAt.f l0 a1_0 = some ((kk : Int), fd) := by unfold impl_itemAt.f; rw [if_pos (by omega), ← hkk, ← hfd]
    have hcl : impl_Item_15.f l0 = some l0 := by unfold impl_Item_15.f; rw [if_pos (by omega)]
    rw [← hfd] at h
    have hu33 := Try.underlying33
    have HR0 := Aside0.mk hr0
    have HC0 := Aside0.mk hc0
    have HCL := Aside0.mk hcl
    have HAT := Aside0.mk hat
    have LM := Aside0.mk hl
    cases fd with
    | true =>
      rw [if_pos rfl] at h
      obtain rfl := Option.some.inj h
      have hkl : kk < l0.length := by
        unfold impl_itemAt.found at hfd
        by_cases hx : kk < l0.length
        · exact hx
        · rw [if_neg hx] at hfd; exact absurd hfd (by decide)
      have KL := Aside0.mk hkl
      have hkk1 : (0 : Int) ≤ (kk : Int) := by omega
      have hkk2 : (kk : Int) < (l0.length : Int) := by omega
      clear hr0 hc0 hat hcl hl h hkk hfd hkl
      go_enter Try.func16, Try.ntmps16
      go_wp2_with (first
        | ((with_reducible refine gate_dst (N := 3) rfl ?_); refine box_event ?hg (N := 3) ?hd (cs := #[.string a1_0, .string a1_1, .string a1_2, .int .i64 a1_3, .bool a1_4]) (t := 33) ?hr ?_; (case hd => rfl); (case hg => rfl); (case hr => first | (go_simp; done) | (go_simp; rfl)); intro gb hg2 w3 hbox hb; have BK := Aside0.mk hbox; have HB := Aside0.mk hb; have GE := Aside0.mk (show w.heap.size ≤ gb from hg2 ▸ Nat.le_refl _); clear hbox hb hg2)
        | (go_at_call 15; (with_reducible refine (impl_Item_15.calls A0 c0 l0 l0 _ (Kd.C_below HR0.out HB.out) HC0.out HCL.out).mono ?_); rintro e w4 ⟨v1, rfl, ho, hb⟩; obtain ⟨A, c, rfl, hc1, hC1⟩ := Kd.R_reads ho; have HO := Aside0.mk ho; have C1 := Aside0.mk hc1; have CC := Aside0.mk hC1; have BL := Aside0.mk (blk_lt BK.out); have BK2 := Aside0.mk (blk_below BK.out hb); have HB2 := Aside0.mk (below_step HB.out hb); have HBS := Aside0.mk (below_size HB.out); clear ho hb BK HB hc1 hC1; have hcz0 : w4.cell? ⟨gb, 0, none⟩ = some (.string a1_0) := (blk_cell BK2.out 0).trans rfl; have hfz0 := blk_frozen BK2.out 0)
        | (go_at_call 17; (with_reducible refine (impl_itemAt.calls A c l0 a1_0 _ _ _ CC.out C1.out HAT.out).mono ?_); rintro e w5 ⟨rfl, hb⟩; have HO3 := Aside0.mk (Kd.R_below HO.out hb); have BK3 := Aside0.mk (blk_below BK2.out hb); have HB3 := Aside0.mk (below_step HB2.out hb); clear hb HO BK2 HB2 CC hcz0 hfz0; have HX := Aside0.mk (Kd.R_form HO3.out (Nat.zero_lt_of_lt KL.out)); obtain ⟨g, c', e1, hg1, hg2, cells, hcells⟩ := HX.out; injection e1 with e1 e2 e3; subst e1; subst e3; clear HX hg1 hg2 hcells; have HE := Aside0.mk (Kd.R_elem HO3.out z33 (kk : Int) (by omega) (by have := KL.out; omega)); have hcz0 : w5.cell? ⟨gb, 0, none⟩ = some (.string a1_0) := (blk_cell BK3.out 0).trans rfl; have hcz1 : w5.cell? ⟨gb, 1, none⟩ = some (.string a1_1) := (blk_cell BK3.out 1).trans rfl; have hcz2 : w5.cell? ⟨gb, 2, none⟩ = some (.string a1_2) := (blk_cell BK3.out 2).trans rfl; have hcz3 : w5.cell? ⟨gb, 3, none⟩ = some (.int .i64 a1_3) := (blk_cell BK3.out 3).trans rfl; have hcz4 : w5.cell? ⟨gb, 4, none⟩ = some (.bool a1_4) := (blk_cell BK3.out 4).trans rfl; have hfz0 := blk_frozen BK3.out 0; have hfz1 := blk_frozen BK3.out 1; have hfz2 := blk_frozen BK3.out 2; have hfz3 := blk_frozen BK3.out 3; have hfz4 := blk_frozen BK3.out 4; obtain ⟨ce, hcl, hM, hcc, hfr⟩ := HE.out; obtain rfl := k33_openM hM; have hx0 : w5.cell? ⟨g, kk * 5, none⟩ = some _ := hcc 0 _ rfl; have hx1 : w5.cell? ⟨g, kk * 5 + 1, none⟩ = some _ := hcc 1 _ rfl; have hx2 : w5.cell? ⟨g, kk * 5 + 2, none⟩ = some _ := hcc 2 _ rfl; have hx3 : w5.cell? ⟨g, kk * 5 + 3, none⟩ = some _ := hcc 3 _ rfl; have hx4 : w5.cell? ⟨g, kk * 5 + 4, none⟩ = some _ := hcc 4 _ rfl; have hf0 : w5.frozen? ⟨g, kk * 5, none⟩ = false := hfr 0; have hf1 : w5.frozen? ⟨g, kk * 5 + 1, none⟩ = false := hfr 1; have hf2 : w5.frozen? ⟨g, kk * 5 + 2, none⟩ = false := hfr 2; have hf3 : w5.frozen? ⟨g, kk * 5 + 3, none⟩ = false := hfr 3; have hf4 : w5.frozen? ⟨g, kk * 5 + 4, none⟩ = false := hfr 4; have HP := Aside0.mk (Kd.R_seg (okp := fun k => k ≠ g) HO3.out (kk : Int) (by omega) (by have := KL.out; omega) (c := _) (seg := [.string a1_0, .string a1_1, .string a1_2, .int .i64 a1_3, .bool a1_4]) (j := 0) hcl hcc (by show 0 + 5 ≤ 5; omega) (x' := ⟨a1_0, a1_1, a1_2, a1_3, a1_4⟩) (k33_mkM _ _ _ _) (fun k hk => ⟨trivial, hk⟩)); clear hcl hM hcc hfr))
      go_ret
      exact ⟨_, rfl, Kd.R_lower HP.out.1 HBS.out, HB3.out.grown HP.out.2 (below_size HB3.out) (fun k hk => by injection hk with hk; subst hk; exact Kd.R_base (Kd.R_lower HO3.out HBS.out) _ rfl)⟩
    | false =>
      rw [if_neg (by decide)] at h
      have KL := Aside0.mk (show kk ≤ l0.length from hkk ▸ impl_placed.bs_le l0 a1_0 (l0.length + 1) 0 l0.length (Nat.zero_le _))
      obtain rfl := Option.some.inj h
      clear hr0 hc0 hat hcl hl h hkk hfd
      go_enter Try.func16, Try.ntmps16
      go_wp2_with (first
        | ((with_reducible refine gate_dst (N := 3) rfl ?_); refine box_event ?hg (N := 3) ?hd (cs := #[.string a1_0, .string a1_1, .string a1_2, .int .i64 a1_3, .bool a1_4]) (t := 33) ?hr ?_; (case hd => rfl); (case hg => rfl); (case hr => first | (go_simp; done) | (go_simp; rfl)); intro gb hg2 w3 hbox hb; have BK := Aside0.mk hbox; have HB := Aside0.mk hb; have GE := Aside0.mk (show w.heap.size ≤ gb from hg2 ▸ Nat.le_refl _); clear hbox hb hg2)
        | (go_at_call 15; (with_reducible refine (impl_Item_15.calls A0 c0 l0 l0 _ (Kd.C_below HR0.out HB.out) HC0.out HCL.out).mono ?_); rintro e w4 ⟨v1, rfl, ho, hb⟩; obtain ⟨A, c, rfl, hc1, hC1⟩ := Kd.R_reads ho; have HO := Aside0.mk ho; have C1 := Aside0.mk hc1; have CC := Aside0.mk hC1; have BL := Aside0.mk (blk_lt BK.out); have BK2 := Aside0.mk (blk_below BK.out hb); have HB2 := Aside0.mk (below_step HB.out hb); have HBS := Aside0.mk (below_size HB.out); clear ho hb BK HB hc1 hC1; have hcz0 : w4.cell? ⟨gb, 0, none⟩ = some (.string a1_0) := (blk_cell BK2.out 0).trans rfl; have hfz0 := blk_frozen BK2.out 0)
        | (go_at_call 17; (with_reducible refine (impl_itemAt.calls A c l0 a1_0 _ _ _ CC.out C1.out HAT.out).mono ?_); rintro e w5 ⟨rfl, hb⟩; have HO3 := Aside0.mk (Kd.R_below HO.out hb); have BK3 := Aside0.mk (blk_below BK2.out hb); have HB3 := Aside0.mk (below_step HB2.out hb); clear hb HO BK2 HB2 CC hcz0 hfz0; have hcz0 : w5.cell? ⟨gb, 0, none⟩ = some (.string a1_0) := (blk_cell BK3.out 0).trans rfl; have hfz0 := blk_frozen BK3.out 0; have hcz1 : w5.cell? ⟨gb, 1, none⟩ = some (.string a1_1) := (blk_cell BK3.out 1).trans rfl; have hfz1 := blk_frozen BK3.out 1; have hcz2 : w5.cell? ⟨gb, 2, none⟩ = some (.string a1_2) := (blk_cell BK3.out 2).trans rfl; have hfz2 := blk_frozen BK3.out 2; have hcz3 : w5.cell? ⟨gb, 3, none⟩ = some (.int .i64 a1_3) := (blk_cell BK3.out 3).trans rfl; have hfz3 := blk_frozen BK3.out 3; have hcz4 : w5.cell? ⟨gb, 4, none⟩ = some (.bool a1_4) := (blk_cell BK3.out 4).trans rfl; have hfz4 := blk_frozen BK3.out 4))
      go_wp2_with (go_at_call 21; (with_reducible refine (insert_ok _ l0 ⟨a1_0, a1_1, a1_2, a1_3, a1_4⟩ kk w _ _ _ #[.string a1_0, .string a1_1, .string a1_2, .int .i64 a1_3, .bool a1_4] (below_alloc HB3.out _) (Kd.R_lower (Kd.R_alloc HO3.out _) HBS.out) LM.out KL.out (fun g hg => Nat.ne_of_gt (Kd.R_lt HO3.out g hg)) (blk_new _ _) rfl).mono ?_); rintro e w7 ⟨v2, rfl, ho, hb⟩; have HO7 := Aside0.mk ho; have HB7 := Aside0.mk hb; clear ho hb)
      go_ret
      exact ⟨_, rfl, HO7.out, HB7.out⟩
  · rw [if_neg hl] at h
    exact absurd h (by simp)

/-! ### impl_Item_18: function 18: by hand ('slices.Delete' of one item) -/
def impl_Item_18.f (l0 : List (S33)) (a1 : Int) (a2 : Int) : Option (List (S33)) := if 0 ≤ a1 then (if a1 < (l0.length : Int) then (if a2 = a1 + 1 then some (l0.eraseIdx a1.toNat) else none) else none) else none
theorem impl_Item_18.calls (P0_ : Nat → Prop) (u9000_ : Value) (l0 : List (S33)) (a1 : Int) (a2 : Int) (r : List (S33)) (w0 w : World) (hB : Below w0.heap.size w0 w) (ho0 : Kd.R k33 33 w w0.heap.size P0_ u9000_ l0) (h : impl_Item_18.f l0 a1 a2 = some r) :
    Calls Try.prog 18 #[u9000_, .int .i64 a1, .int .i64 a2] w fun e w' => ∃ v0_ : Value, e = .returned v0_ ∧ Kd.R k33 33 w' w0.heap.size (fun k_ => (P0_ k_ ∨ w.heap.size ≤ k_)) v0_ r ∧ Below w0.heap.size w0 w' ∧ Kept w w' (fun k_ => P0_ k_) := by
  unfold impl_Item_18.f at h
  by_cases h1 : 0 ≤ a1
  · rw [if_pos h1] at h
    by_cases h2 : a1 < (l0.length : Int)
    · rw [if_pos h2] at h
      by_cases h3 : a2 = a1 + 1
      · rw [if_pos h3] at h
        obtain rfl := Option.some.inj h
        have hk : a1 = (a1.toNat : Int) := by omega
        have hk2 : a2 = ((a1.toNat + 1 : Nat) : Int) := by omega
        have hd := delete_ok P0_ u9000_ l0 a1.toNat w0 w hB ho0 (by omega)
        rw [← hk, ← hk2] at hd
        exact hd
      · rw [if_neg h3] at h
        exact absurd h (by simp)
    · rw [if_neg h2] at h
      exact absurd h (by simp)
  · rw [if_neg h1] at h
    exact absurd h (by simp)

end Go.Proofs.Ytgfmapilimlamaa.QFnExactRosterFollow
