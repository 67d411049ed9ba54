-- laid by this session's own runner (wip/print2.py): not a printed file
import Derived.Test.YtfijkimkdccioaaDoorQFnDialbackx0
import Derived.Test.YtfijkimkdccioaaDoorQFnDialbackx3
import Derived.Test.YtfijkimkdccioaaDoorQFnDialbackx4
namespace Go.Proofs.YtfijkimkdccioaaDoor.QFnDialback
open Go.RowKit Go.Proofs.YtfijkimkdccioaaDoorW.PrintWords Go.Proofs.YtfijkimkdccioaaDoorW.PrintLast Go.Proofs.YtfijkimkdccioaaDoorW.PrintMore
attribute [local go_sem] max2_int min2_int max_two min_two max_three min_three max_four min_four   -- for this text's walks alone
set_option linter.unusedVariables false
set_option linter.unusedSimpArgs false

theorem bcq_5 {w : World} {g t : Nat} {cs : Array Value} {v : Value} (h : w.heap[g]? = some (.cells cs t (0, 0))) (j : Nat) (e : cs[j]? = some v := by rfl) : w.cell? ⟨g, j, none⟩ = some v := (blk_cell h j).trans e
theorem zb0_5 {P : Prop} (h : P := by repeat ((with_reducible (exact HB.out)))) : P := h
theorem zb1_5 {P : Prop} (h : P := by rw [hg]; exact (below_size (by repeat ((with_reducible (exact HB.out)))))) : P := h
theorem zb2_5 {P : Prop} (h : P := by exact BK116.out) : P := h
theorem zb3_5 {P : Prop} (h : P := by repeat ((with_reducible (exact HB.out)))) : P := h
theorem zb4_5 {P : Prop} (h : P := by repeat ((with_reducible (exact HB.out)))) : P := h
theorem zb5_5 {P : Prop} (h : P := by exact BK124.out) : P := h
theorem zb6_5 {P : Prop} (h : P := by repeat ((with_reducible (exact HB.out)))) : P := h
theorem zb7_5 {P : Prop} (h : P := by rw [hg]; exact (below_size (by repeat ((with_reducible (exact HB.out)))))) : P := h
theorem zb8_5 {P : Prop} (h : P := by rw [hg]; exact Nat.ne_of_lt (blk_lt (g := gb124) (o := .cells #[.string a0_0, .int .i64 a0_1, .slice A0_2 l0_2.length c0_2] 25 (0, 0)) (by exact BK124.out))) : P := h
theorem zb9_5 {P : Prop} (h : P := by rw [hg]; exact Nat.ne_of_gt (blk_lt (g := gb124) (o := .cells #[.string a0_0, .int .i64 a0_1, .slice A0_2 l0_2.length c0_2] 25 (0, 0)) (by exact BK124.out))) : P := h
theorem zb10_5 {P : Prop} (h : P := by (try simp only [List.map_toArray, List.map_cons, List.map_nil]); rfl) : P := h
theorem zb11_5 {P : Prop} (h : P := by repeat ((with_reducible (exact HB.out)))) : P := h
theorem zb12_5 {P : Prop} (h : P := by exact BK125.out) : P := h
theorem zb13_5 {P : Prop} (h : P := by rfl) : P := h
theorem zb14_5 {P : Prop} (h : P := by (with_reducible assumption)) : P := h
/-! ### spec_l06Ill: function 29 -/
def spec_l06Ill.f (a0 : Int) : Option (ByteArray × Int × (List (S43)) × Int × Int) := some ((⟨#[]⟩ : ByteArray), 0, ([] : List (S43)), 0, a0)
set_option maxHeartbeats 8000000 in
set_option maxRecDepth 100000 in
theorem spec_l06Ill.calls (a0 : Int) (r1 : ByteArray) (r2 : Int) (r3 : List (S43)) (r4 : Int) (r5 : Int) (w : World) (h : spec_l06Ill.f a0 = some (r1, r2, r3, r4, r5)) :
  Calls Tryd.prog 29 #[.int .i64 a0] w fun e w' => ∃ v2_ : Value, e = .returned (.agg #[.string r1, .int .i64 r2, v2_, .int .i64 r4, .int .i64 r5]) ∧ Kd.R k43 43 w' w.heap.size (fun _ => True) v2_ r3 ∧ Below w.heap.size w w' := by
 have hu29 := Tryd.underlying29
 have HB := Aside0.mk (Below.refl w.heap.size w)
 have H : (some ((⟨#[]⟩ : ByteArray), 0, ([] : List (S43)), 0, a0)) = some (r1, r2, r3, r4, r5) := h
 clear h
 simp only [Option.some.injEq, Prod.mk.injEq] at H
 obtain ⟨rfl, rfl, rfl, rfl, rfl⟩ := H
 go_enter Tryd.func29, Tryd.ntmps29
 go_wp2_with (((with_reducible refine gate_dst (N := 2) rfl ?_); refine box_event ?hg (N := 2) ?hd (cs := #[.string (⟨#[]⟩ : ByteArray), .int .i64 0, .slice none 0 0, .int .i64 0, .int .i64 0]) (t := 29) ?hr ?_; (case hd => rfl); (case hg => rfl); (case hr => (go_simp; done)); intro gb115 hg w2 hbox hb; have BK115 := Aside0.mk (hbox); have GW115 := Aside0.mk ((zb1_5 : w.heap.size ≤ gb115)); have GE115 := GW115; replace HB := Aside0.mk (below_step zb0_5 hb); clear hb hbox hg; obtain ⟨z0, z1, z2, z3, z4, z5, z6, z7, z8, z9⟩ := bz5 BK115.out))
 refine bodyPost_ret (results_cell_row rfl _ _ gb115 29 #[.string (⟨#[]⟩ : ByteArray), .int .i64 0, .slice none 0 0, .int .i64 0, .int .i64 a0] (0, 0) _ rfl (by apply bp5; exact BK115.out) Tryd.underlying29 rfl (by kernel_rfl)) rfl ?_
 exact ⟨_, by rfl, by (exact Kd.R_nil _ _ _ _ _), by repeat ((with_reducible first | exact HB.out | refine below_set ?_ GE115.out))⟩
/-! ### spec_l06Copy: function 31 -/
def spec_l06Copy.f (a0_0 : ByteArray) (a0_1 : Int) (l0_2 : List (S43)) : Option (ByteArray × Int × (List (S43))) := (some (([] : List (S43)) : List (S43))).bind fun y118 => (if y118.length + l0_2.length < 2932031007402 then (some (a0_0, a0_1, (y118 ++ l0_2))) else (none))
set_option maxHeartbeats 8000000 in
set_option maxRecDepth 100000 in
theorem spec_l06Copy.calls (a0_0 : ByteArray) (a0_1 : Int) (A0_2 : Option Addr) (c0_2 : Nat) (l0_2 : List (S43)) (r1 : ByteArray) (r2 : Int) (r3 : List (S43)) (w : World) (hr0_2 : Kd.C k43 w A0_2 l0_2.length l0_2) (hc0_2 : l0_2.length ≤ c0_2) (h : spec_l06Copy.f a0_0 a0_1 l0_2 = some (r1, r2, r3)) :
  Calls Tryd.prog 31 #[.agg #[.string a0_0, .int .i64 a0_1, .slice A0_2 l0_2.length c0_2]] w fun e w' => ∃ v2_ : Value, e = .returned (.agg #[.string r1, .int .i64 r2, v2_]) ∧ Kd.R k43 43 w' w.heap.size (fun _ => True) v2_ r3 ∧ Below w.heap.size w w' := by
 have hu25 := Tryd.underlying25
 have HR0_2 := Aside0.mk hr0_2
 have HC0_2 := Aside0.mk hc0_2
 clear hr0_2 hc0_2
 have HB := Aside0.mk (Below.refl w.heap.size w)
 have H : ((some (([] : List (S43)) : List (S43))).bind fun y118 => (if y118.length + l0_2.length < 2932031007402 then (some (a0_0, a0_1, (y118 ++ l0_2))) else (none))) = some (r1, r2, r3) := h
 clear h
 obtain ⟨y118, hy118⟩ : ∃ y_ : List (S43), y_ = (([] : List (S43))) := ⟨_, rfl⟩
 replace H : (if y118.length + l0_2.length < 2932031007402 then (some (a0_0, a0_1, (y118 ++ l0_2))) else (none)) = some (r1, r2, r3) := by (have H2_ := (Option.bind_some _ _).symm.trans H; rw [hy118]; with_reducible exact H2_)
 have Ny118 := Aside0.mk hy118
 clear hy118
 by_cases c2 : y118.length + l0_2.length < 2932031007402
 rotate_left
 · rw [if_neg c2] at H; exact absurd H (by simp)
 rw [if_pos c2] at H
 have LMc2 := Aside0.mk c2
 clear c2
 obtain ⟨y121, hy121⟩ : ∃ y_ : List (S43), y_ = (y118 ++ l0_2) := ⟨_, rfl⟩
 replace H : (some (a0_0, a0_1, y121)) = some (r1, r2, r3) := by (rw [hy121]; with_reducible exact H)
 have Ny121 := Aside0.mk hy121
 clear hy121
 simp only [Option.some.injEq, Prod.mk.injEq] at H
 obtain ⟨rfl, rfl, rfl⟩ := H
 go_enter Tryd.func31, Tryd.ntmps31
 go_wp2_with (first | ((with_reducible refine gate_dst (N := 1) rfl ?_); refine box_event ?hg (N := 1) ?hd (cs := #[.string a0_0, .int .i64 a0_1, .slice A0_2 l0_2.length c0_2]) (t := 25) ?hr ?_; (case hd => rfl); (case hg => rfl); (case hr => (go_simp; done)); intro gb116 hg w3 hbox hb; have BK116 := Aside0.mk (hbox); have GW116 := Aside0.mk ((zb1_5 : w.heap.size ≤ gb116)); have GE116 := GW116; replace HB := Aside0.mk (below_step zb0_5 hb); clear hb hbox hg) | ((with_reducible refine gate_dst (N := 2) rfl ?_); refine box_event ?hg (N := 2) ?hd (cs := #[.string (⟨#[]⟩ : ByteArray), .int .i64 0, .slice none 0 0]) (t := 25) ?hr ?_; (case hd => rfl); (case hg => rfl); (case hr => (go_simp; done)); intro gb117 hg w4 hbox hb; have BK117 := Aside0.mk (hbox); have GW117 := Aside0.mk ((by rw [hg]; exact (below_size zb3_5) : w.heap.size ≤ gb117)); have GE117 := Aside0.mk ((by rw [hg]; exact (below_size zb3_5) : w.heap.size ≤ gb117)); replace HB := Aside0.mk (below_step zb3_5 hb); have NB116_117 := Aside0.mk ((by rw [hg]; exact Nat.ne_of_lt (blk_lt (g := gb116) (o := .cells #[.string a0_0, .int .i64 a0_1, .slice A0_2 l0_2.length c0_2] 25 (0, 0)) zb2_5) : gb116 ≠ gb117)); have NB117_116 := Aside0.mk ((by rw [hg]; exact Nat.ne_of_gt (blk_lt (g := gb116) (o := .cells #[.string a0_0, .int .i64 a0_1, .slice A0_2 l0_2.length c0_2] 25 (0, 0)) zb2_5) : gb117 ≠ gb116)); replace BK116 := bkb BK116 hb; clear hb hbox hg) | ((with_reducible refine gate_dst (N := 3) rfl ?_); refine Kd.R_lit k43 _ 43 ?hg (N := 3) ?hd (xs := ([] : List (S43))) (inner := []) (ok := fun _ => True) (okp := fun _ => True) ?hr ?hp (fun _ hk => hk) trivial (Below.refl _ _) (Nat.le_refl _) (by simp) ?_; (case hd => rfl); (case hg => rfl); (case hr => (go_simp; done)); (case hp => exact (Reps.none _ _)); intro v119 w5 ho6 hb hg_ hnew_; clear hg_ hnew_; ((rw [← Ny118.out] at ho6)); have HO120 := Aside0.mk (Kd.R_lower ho6 (below_size zb4_5)); replace BK116 := bkb BK116 hb; replace BK117 := bkb BK117 hb; replace HB := Aside0.mk (below_step zb4_5 hb); clear hb ho6; have hnb7 := NB116_117.out; have hnc7 := NB117_116.out; obtain ⟨z0, z1, z2, z3, z4, z5⟩ := bz3 BK116.out) | ((with_reducible refine gate_builtin (b := .append) (xs := #[.tmp 3, .tmp 5]) rfl ?_); at_builtin; refine Kd.R_append_rows k43 (w0 := w) w.heap.size rfl (.tmp 3) (.tmp 5) 23 43 (.agg #[(.string ⟨#[]⟩), (.int .i64 0), (.int .i64 0), (.string ⟨#[]⟩)]) 48 rfl Tryd.underlying23 info43 rfl (by decide) (by omega) v119 y118 l0_2 _ _ _ (fun _ => True) (fun _ => False) rfl rfl ?aO ?aR (fun _ _ h => h) (fun _ h => h.elim) ?aF ?aB ?aS ?aL ?_; (case aR => repeat ((exact (Kd.C_below HR0_2.out HB.out)))); (case aB => exact zb4_5); (case aF => exact (fun _ _ => trivial)); (case aO => exact (by exact HO120.out)); (case aS => exact (below_size zb4_5)); (case aL => have := LMc2.out; omega); intro v122 w9 ho hb hg hat; rw [← Ny121.out] at ho; replace BK116 := Aside0.mk (blk_grown (g := gb116) (o := .cells #[.string a0_0, .int .i64 a0_1, .slice A0_2 l0_2.length c0_2] 25 (0, 0)) zb2_5 hg (Kd.R_ne HO120.out BK116.out (by decide))); replace BK117 := Aside0.mk (blk_grown (g := gb117) (o := .cells #[.string (⟨#[]⟩ : ByteArray), .int .i64 0, .slice none 0 0] 25 (0, 0)) (by exact BK117.out) hg (Kd.R_ne HO120.out BK117.out (by decide))); replace HB := Aside0.mk (hb); have HO123 := Aside0.mk (ho); clear HO120; clear ho hb hg hat; obtain ⟨Ao10, co10, eo10⟩ := Kd.R_slice HO123.out; subst eo10; obtain ⟨z0, z1, z2, z3, z4, z5⟩ := bz3 BK116.out; obtain ⟨z0, z1, z2, z3, z4, z5⟩ := bz3 BK117.out))
 refine bodyPost_ret (results_cell_row rfl _ _ gb117 25 #[.string a0_0, .int .i64 a0_1, .slice Ao10 y121.length co10] (0, 0) _ rfl (by apply bp3; refine blk_far ?_ NB117_116.out _; exact BK117.out) Tryd.underlying25 rfl (by kernel_rfl)) rfl ?_
 exact ⟨_, by rfl, by exact Kd.R_mono (rfa (rfa (rfa (rfa (Kd.R_types (Kd.R_types HO123.out BK116.out (by decide)) BK117.out (by decide)) (fun _ hk => hk.1.2)) (fun _ h => h.2)) (fun _ h => h.2)) (fun _ h => h.2)) (fun _ hk => trivial), by repeat ((with_reducible first | exact HB.out | refine below_set ?_ GE116.out | refine below_set ?_ GE117.out))⟩
/-! ### spec_DbOpen: function 10 -/
mutual
def spec_DbOpen.j0 : Nat → ByteArray → Bool → ByteArray → Int → List (S43) → Option (ByteArray × Int × (List (S43)) × Int × Int)
 | 0, _, _, _, _, _ => none
 | k + 1, x1, x17, x125000, x125001, x125002 => if x17 = true then ((spec_l06Ill.f 1).bind fun bt135 => (some (bt135.1, bt135.2.1, bt135.2.2.1, bt135.2.2.2.1, bt135.2.2.2.2))) else (if (x125002.length : Int) ≥ 10 then (spec_DbOpen.j1 k x1 true x125000 x125001 x125002) else (spec_DbOpen.j1 k x1 (decide (x125001 ≥ 1000000000)) x125000 x125001 x125002))
def spec_DbOpen.j1 : Nat → ByteArray → Bool → ByteArray → Int → List (S43) → Option (ByteArray × Int × (List (S43)) × Int × Int)
 | 0, _, _, _, _, _ => none
 | k + 1, x1, x27, x125000, x125001, x125002 => if x27 = true then ((spec_l06Ill.f 9).bind fun bt142 => (some (bt142.1, bt142.2.1, bt142.2.2.1, bt142.2.2.2.1, bt142.2.2.2.2))) else ((spec_l06Copy.f x125000 x125001 x125002).bind fun bt149 => (if bt149.2.2.length < 2932031007402 then (some (bt149.1, wrap64 (x125001 + 1), (bt149.2.2 ++ [(⟨x1, x125001, 0, (⟨#[]⟩ : ByteArray)⟩ : S43)]), x125001, 0)) else (none)))
end
def spec_DbOpen.f (k : Nat) (a0_0 : ByteArray) (a0_1 : Int) (l0_2 : List (S43)) (a1 : ByteArray) : Option (ByteArray × Int × (List (S43)) × Int × Int) := if (a1.size : Int) > 20000 then ((spec_l06Ill.f 2).bind fun bt126 => (some (bt126.1, bt126.2.1, bt126.2.2.1, bt126.2.2.2.1, bt126.2.2.2.2))) else ((spec_DialbackRight.f k a0_0 a0_1 l0_2).bind fun t133 => (if t133 = true then ((spec_l05Domain.f k a1).bind fun t134 => (spec_DbOpen.j0 k a1 (!t134) a0_0 a0_1 l0_2)) else (spec_DbOpen.j0 k a1 true a0_0 a0_1 l0_2)))
theorem spec_DbOpen.mono_l : ∀ k, (∀ y0 y1 y2 y3 y4, LeO (spec_DbOpen.j0 k y0 y1 y2 y3 y4) (spec_DbOpen.j0 (k + 1) y0 y1 y2 y3 y4)) ∧ (∀ y0 y1 y2 y3 y4, LeO (spec_DbOpen.j1 k y0 y1 y2 y3 y4) (spec_DbOpen.j1 (k + 1) y0 y1 y2 y3 y4))
 | 0 => ⟨fun _ _ _ _ _ r h => by simp [spec_DbOpen.j0] at h, fun _ _ _ _ _ r h => by simp [spec_DbOpen.j1] at h⟩
 | k + 1 => by
  obtain ⟨ih0, ih1⟩ := spec_DbOpen.mono_l k
  refine ⟨?_, ?_⟩
  ·
   intro y0 y1 y2 y3 y4
   unfold spec_DbOpen.j0
   repeat' first
   | (with_reducible exact ih0 _ _ _ _ _)
   | (with_reducible exact ih1 _ _ _ _ _)
   | (with_reducible exact spec_DialbackRight.mono _ _ _ _)
   | (with_reducible exact spec_l05Domain.mono _ _)
   | (with_reducible exact LeO.refl _)
   | (with_reducible exact LeO.none _)
   | (with_reducible refine LeO.ite ?_ ?_)
   | (with_reducible refine LeO.bind ?_ (fun _ => ?_))
   | exact ih0 _ _ _ _ _
   | exact ih1 _ _ _ _ _
   | exact spec_DialbackRight.mono _ _ _ _
   | exact spec_l05Domain.mono _ _
   | exact LeO.none _
   | refine LeO.ite ?_ ?_
   | refine LeO.bind ?_ (fun _ => ?_)
  ·
   intro y0 y1 y2 y3 y4
   unfold spec_DbOpen.j1
   repeat' first
   | (with_reducible exact ih0 _ _ _ _ _)
   | (with_reducible exact ih1 _ _ _ _ _)
   | (with_reducible exact spec_DialbackRight.mono _ _ _ _)
   | (with_reducible exact spec_l05Domain.mono _ _)
   | (with_reducible exact LeO.refl _)
   | (with_reducible exact LeO.none _)
   | (with_reducible refine LeO.ite ?_ ?_)
   | (with_reducible refine LeO.bind ?_ (fun _ => ?_))
   | exact ih0 _ _ _ _ _
   | exact ih1 _ _ _ _ _
   | exact spec_DialbackRight.mono _ _ _ _
   | exact spec_l05Domain.mono _ _
   | exact LeO.none _
   | refine LeO.ite ?_ ?_
   | refine LeO.bind ?_ (fun _ => ?_)
theorem spec_DbOpen.mono : ∀ a0 a1 a2 a3 k, LeO (spec_DbOpen.f k a0 a1 a2 a3) (spec_DbOpen.f (k + 1) a0 a1 a2 a3) := by
 intro a0 a1 a2 a3 k
 obtain ⟨ih0, ih1⟩ := spec_DbOpen.mono_l k
 unfold spec_DbOpen.f
 repeat' first
   | (with_reducible exact ih0 _ _ _ _ _)
   | (with_reducible exact ih1 _ _ _ _ _)
   | (with_reducible exact spec_DialbackRight.mono _ _ _ _)
   | (with_reducible exact spec_l05Domain.mono _ _)
   | (with_reducible exact LeO.refl _)
   | (with_reducible exact LeO.none _)
   | (with_reducible refine LeO.ite ?_ ?_)
   | (with_reducible refine LeO.bind ?_ (fun _ => ?_))
   | exact ih0 _ _ _ _ _
   | exact ih1 _ _ _ _ _
   | exact spec_DialbackRight.mono _ _ _ _
   | exact spec_l05Domain.mono _ _
   | exact LeO.none _
   | refine LeO.ite ?_ ?_
   | refine LeO.bind ?_ (fun _ => ?_)
set_option maxHeartbeats 8000000 in
set_option maxRecDepth 100000 in
theorem spec_DbOpen.calls (k : Nat) (a0_0 : ByteArray) (a0_1 : Int) (A0_2 : Option Addr) (c0_2 : Nat) (l0_2 : List (S43)) (a1 : ByteArray) (r1 : ByteArray) (r2 : Int) (r3 : List (S43)) (r4 : Int) (r5 : Int) (w : World) (hr0_2 : Kd.C k43 w A0_2 l0_2.length l0_2) (hc0_2 : l0_2.length ≤ c0_2) (h : spec_DbOpen.f k a0_0 a0_1 l0_2 a1 = some (r1, r2, r3, r4, r5)) :
  Calls Tryd.prog 10 #[.agg #[.string a0_0, .int .i64 a0_1, .slice A0_2 l0_2.length c0_2], .string a1] w fun e w' => ∃ v2_ : Value, e = .returned (.agg #[.string r1, .int .i64 r2, v2_, .int .i64 r4, .int .i64 r5]) ∧ Kd.R k43 43 w' w.heap.size (fun _ => True) v2_ r3 ∧ Below w.heap.size w w' := by
 have hu25 := Tryd.underlying25
 have hu29 := Tryd.underlying29
 have hu43 := Tryd.underlying43
 have HR0_2 := Aside0.mk hr0_2
 have HC0_2 := Aside0.mk hc0_2
 clear hr0_2 hc0_2
 have HB := Aside0.mk (Below.refl w.heap.size w)
 have H : (if (a1.size : Int) > 20000 then ((spec_l06Ill.f 2).bind fun bt126 => (some (bt126.1, bt126.2.1, bt126.2.2.1, bt126.2.2.2.1, bt126.2.2.2.2))) else ((spec_DialbackRight.f k a0_0 a0_1 l0_2).bind fun t133 => (if t133 = true then ((spec_l05Domain.f k a1).bind fun t134 => (spec_DbOpen.j0 k a1 (!t134) a0_0 a0_1 l0_2)) else (spec_DbOpen.j0 k a1 true a0_0 a0_1 l0_2)))) = some (r1, r2, r3, r4, r5) := h
 clear h
 by_cases c3 : (a1.size : Int) > 20000
 ·
  rw [if_pos c3] at H
  have c3b0 : decide (20000 < (a1.size : Int)) = true := decide_eq_true c3
  have c3b1 : decide (20000 < a1.size) = true := decide_eq_true (by omega)
  clear c3
  replace H := Option.bind_eq_some_iff.mp H
  obtain ⟨⟨t126, t127, t128, t131, t132⟩, A40, H⟩ := H
  (try dsimp -simprocs only at H)
  have A4 := Aside0.mk A40
  clear A40
  simp only [Option.some.injEq, Prod.mk.injEq] at H
  obtain ⟨rfl, rfl, rfl, rfl, rfl⟩ := H
  go_enter Tryd.func10, Tryd.ntmps10
  go_wp2_with (first | ((with_reducible refine gate_dst (N := 2) rfl ?_); refine box_event ?hg (N := 2) ?hd (cs := #[.string a0_0, .int .i64 a0_1, .slice A0_2 l0_2.length c0_2]) (t := 25) ?hr ?_; (case hd => rfl); (case hg => rfl); (case hr => (go_simp; done)); intro gb124 hg w5 hbox hb; have BK124 := Aside0.mk (hbox); have GW124 := Aside0.mk ((zb1_5 : w.heap.size ≤ gb124)); have GE124 := GW124; replace HB := Aside0.mk (below_step zb0_5 hb); clear hb hbox hg) | ((with_reducible refine gate_dst (N := 4) rfl ?_); refine box_event ?hg (N := 4) ?hd (cs := #[.string (⟨#[]⟩ : ByteArray), .int .i64 0, .slice none 0 0, .int .i64 0, .int .i64 0]) (t := 29) ?hr ?_; (case hd => rfl); (case hg => rfl); (case hr => (go_simp; done)); intro gb125 hg w6 hbox hb; have BK125 := Aside0.mk (hbox); have GW125 := Aside0.mk ((zb7_5 : w.heap.size ≤ gb125)); have GE125 := GW125; replace HB := Aside0.mk (below_step zb6_5 hb); have NB124_125 := Aside0.mk ((zb8_5 : gb124 ≠ gb125)); have NB125_124 := Aside0.mk ((zb9_5 : gb125 ≠ gb124)); replace BK124 := bkb BK124 hb; clear hb hbox hg) | ((with_reducible refine gate_callee (f := 29) rfl ?_); refine goesL_ (some 9) rfl rfl Tryd.func29 (by kernel_rfl) rfl #[.int .i64 2] rfl zb10_5 ?_; (with_reducible refine (spec_l06Ill.calls 2 t126 t127 t128 t131 t132 _ A4.out).mono ?_); rintro e w7 ⟨v129, rfl, ho0, hb⟩; refine ⟨_, rfl, ?_⟩; have HO130 := Aside0.mk (Kd.R_lower ho0 (below_size zb11_5)); replace BK124 := bkb BK124 hb; replace BK125 := bkb BK125 hb; replace HB := Aside0.mk (below_step zb11_5 hb); (try clear hb); (try clear ho0); have hnb8 := NB125_124.out; have hnc8 := NB124_125.out; obtain ⟨z0, z1, z2, z3, z4, z5, z6, z7, z8, z9⟩ := bz5 BK125.out; obtain ⟨Ao10, co10, eo10⟩ := Kd.R_slice HO130.out; subst eo10))
  refine bodyPost_ret (results_cell_row rfl _ _ gb125 29 #[.string t126, .int .i64 t127, .slice Ao10 t128.length co10, .int .i64 t131, .int .i64 t132] (0, 0) _ rfl (by apply bp5; exact BK125.out) Tryd.underlying29 rfl (by kernel_rfl)) rfl ?_
  exact ⟨_, by rfl, by exact Kd.R_mono (rfa (rfa (rfa (rfa (rfa (Kd.R_types HO130.out BK125.out (by decide)) (fun _ h => h.2)) (fun _ h => h.2)) (fun _ h => h.2)) (fun _ h => h.2)) (fun _ h => h.2)) (fun _ hk => trivial), by repeat ((with_reducible first | exact HB.out | refine below_set ?_ GE125.out))⟩
 rw [if_neg c3] at H
 have c3b0 : decide (20000 < (a1.size : Int)) = false := decide_eq_false c3
 have c3b1 : decide (20000 < a1.size) = false := decide_eq_false (by omega)
 clear c3
 have HC11 := Aside0.mk H
 clear H
 go_enter Tryd.func10, Tryd.ntmps10
 go_upto_region 3 with (first | ((with_reducible refine gate_dst (N := 2) rfl ?_); refine box_event ?hg (N := 2) ?hd (cs := #[.string a0_0, .int .i64 a0_1, .slice A0_2 l0_2.length c0_2]) (t := 25) ?hr ?_; (case hd => rfl); (case hg => rfl); (case hr => (go_simp; done)); intro gb124 hg w12 hbox hb; have BK124 := Aside0.mk (hbox); have GW124 := Aside0.mk ((zb1_5 : w.heap.size ≤ gb124)); have GE124 := GW124; replace HB := Aside0.mk (below_step zb0_5 hb); clear hb hbox hg) | ((with_reducible refine gate_dst (N := 4) rfl ?_); refine box_event ?hg (N := 4) ?hd (cs := #[.string (⟨#[]⟩ : ByteArray), .int .i64 0, .slice none 0 0, .int .i64 0, .int .i64 0]) (t := 29) ?hr ?_; (case hd => rfl); (case hg => rfl); (case hr => (go_simp; done)); intro gb125 hg w13 hbox hb; have BK125 := Aside0.mk (hbox); have GW125 := Aside0.mk ((zb7_5 : w.heap.size ≤ gb125)); have GE125 := GW125; replace HB := Aside0.mk (below_step zb6_5 hb); have NB124_125 := Aside0.mk ((zb8_5 : gb124 ≠ gb125)); have NB125_124 := Aside0.mk ((zb9_5 : gb125 ≠ gb124)); replace BK124 := bkb BK124 hb; clear hb hbox hg))
 go_cut [17] (fun v17 wc => ∃ (kq : Nat) (x17_10 : Bool), v17 = .bool x17_10 ∧ Aside0 (spec_DbOpen.j0 kq a1 x17_10 a0_0 a0_1 l0_2 = some (r1, r2, r3, r4, r5)) ∧ Aside0 (kq ≤ k) ∧ Aside0 (wc.heap[gb124]? = some (.cells #[.string a0_0, .int .i64 a0_1, (.slice A0_2 l0_2.length c0_2)] 25 (0, 0))) ∧ Aside0 (wc.heap[gb125]? = some (.cells #[.string (⟨#[]⟩ : ByteArray), .int .i64 0, (.slice none 0 0), .int .i64 0, .int .i64 0] 29 (0, 0))) ∧ Aside0 (Below w.heap.size w wc))
 case first =>
  have H := HC11.out
  clear HC11
  replace H := Option.bind_eq_some_iff.mp H
  obtain ⟨t133, A140, H⟩ := H
  (try dsimp -simprocs only at H)
  have A14 := Aside0.mk A140
  clear A140
  have hnb17 := NB124_125.out
  have hnc17 := NB125_124.out
  obtain ⟨z0, z1, z2, z3, z4, z5⟩ := bz3 BK124.out
  by_cases c15 : t133 = true
  rotate_left
  ·
   replace c15 := Bool.eq_false_iff.mpr c15
   subst c15
   rw [if_neg (show ¬ (false = true) by decide)] at H
   have H' := Aside0.mk H
   clear H
   go_wp2_with (((with_reducible refine gate_callee (f := 15) rfl ?_); refine goesL_ (some 11) rfl rfl Tryd.func15 (by kernel_rfl) rfl #[.agg #[.string a0_0, .int .i64 a0_1, .slice A0_2 l0_2.length c0_2]] rfl zb10_5 ?_; (with_reducible refine (spec_DialbackRight.calls k a0_0 a0_1 _ _ l0_2 false _ ?side1 ?side2 A14.out).mono ?_); (case side1 => repeat ((exact (Kd.C_below HR0_2.out HB.out)))); (case side2 => exact HC0_2.out); rintro e w22 ⟨rfl, hb⟩; refine ⟨_, rfl, ?_⟩; replace BK124 := bkb BK124 hb; replace BK125 := bkb BK125 hb; replace HB := Aside0.mk (below_step zb11_5 hb); (try clear hb)))
   go_meet
   case rel => exact ⟨_, (true), zb13_5, H', ⟨by omega⟩, ⟨by exact BK124.out⟩, ⟨by exact BK125.out⟩, ⟨by repeat ((with_reducible (exact HB.out)))⟩⟩
  subst c15
  rw [if_pos rfl] at H
  replace H := Option.bind_eq_some_iff.mp H
  obtain ⟨t134, A160, H⟩ := H
  (try dsimp -simprocs only at H)
  have A16 := Aside0.mk A160
  clear A160
  have H' := Aside0.mk H
  clear H
  go_wp2_with (first | ((with_reducible refine gate_callee (f := 15) rfl ?_); refine goesL_ (some 11) rfl rfl Tryd.func15 (by kernel_rfl) rfl #[.agg #[.string a0_0, .int .i64 a0_1, .slice A0_2 l0_2.length c0_2]] rfl zb10_5 ?_; (with_reducible refine (spec_DialbackRight.calls k a0_0 a0_1 _ _ l0_2 true _ ?side1 ?side2 A14.out).mono ?_); (case side1 => repeat ((exact (Kd.C_below HR0_2.out HB.out)))); (case side2 => exact HC0_2.out); rintro e w19 ⟨rfl, hb⟩; refine ⟨_, rfl, ?_⟩; replace BK124 := bkb BK124 hb; replace BK125 := bkb BK125 hb; replace HB := Aside0.mk (below_step zb11_5 hb); (try clear hb)) | (go_at_call 30; (with_reducible refine (spec_l05Domain.calls k a1 t134 _ A16.out).mono ?_); rintro e w' ⟨rfl, ⟨nd, rfl⟩⟩))
  go_meet
  case rel => exact ⟨_, (!t134), zb13_5, H', ⟨by omega⟩, ⟨by (with_reducible repeat ((refine blk_drewN ?_ _))); exact BK124.out⟩, ⟨by (with_reducible repeat ((refine blk_drewN ?_ _))); exact BK125.out⟩, ⟨by repeat ((with_reducible first | exact HB.out | apply pw_below_drewN))⟩⟩
 case rest =>
  clear HC11
  obtain ⟨kq, x17_10, rfl, HA, HJ10, BK124, BK125, HB⟩ := hcut
  cases kq with
  | zero => exact absurd HA.out (by simp [spec_DbOpen.j0])
  | succ kj10 =>
   have H := HA.out
   clear HA
   simp only [spec_DbOpen.j0] at H
   by_cases c23 : x17_10 = true
   ·
    subst c23
    rw [if_pos rfl] at H
    replace H := Option.bind_eq_some_iff.mp H
    obtain ⟨⟨t135, t136, t137, t140, t141⟩, A240, H⟩ := H
    (try dsimp -simprocs only at H)
    have A24 := Aside0.mk A240
    clear A240
    simp only [Option.some.injEq, Prod.mk.injEq] at H
    obtain ⟨rfl, rfl, rfl, rfl, rfl⟩ := H
    go_wp2_with (((with_reducible refine gate_callee (f := 29) rfl ?_); refine goesL_ (some 18) rfl rfl Tryd.func29 (by kernel_rfl) rfl #[.int .i64 1] rfl zb10_5 ?_; (with_reducible refine (spec_l06Ill.calls 1 t135 t136 t137 t140 t141 _ A24.out).mono ?_); rintro e w25 ⟨v138, rfl, ho0, hb⟩; refine ⟨_, rfl, ?_⟩; have HO139 := Aside0.mk (Kd.R_lower ho0 (below_size zb11_5)); replace BK125 := bkb BK125 hb; replace HB := Aside0.mk (below_step zb11_5 hb); (try clear hb); (try clear ho0); have hnb26 := NB125_124.out; have hnc26 := NB124_125.out; obtain ⟨z0, z1, z2, z3, z4, z5, z6, z7, z8, z9⟩ := bz5 BK125.out; obtain ⟨Ao28, co28, eo28⟩ := Kd.R_slice HO139.out; subst eo28))
    refine bodyPost_ret (results_cell_row rfl _ _ gb125 29 #[.string t135, .int .i64 t136, .slice Ao28 t137.length co28, .int .i64 t140, .int .i64 t141] (0, 0) _ rfl (by apply bp5; exact BK125.out) Tryd.underlying29 rfl (by kernel_rfl)) rfl ?_
    exact ⟨_, by rfl, by exact Kd.R_mono (rfa (rfa (rfa (rfa (rfa (Kd.R_types HO139.out BK125.out (by decide)) (fun _ h => h.2)) (fun _ h => h.2)) (fun _ h => h.2)) (fun _ h => h.2)) (fun _ h => h.2)) (fun _ hk => trivial), by repeat ((with_reducible first | exact HB.out | refine below_set ?_ GE125.out))⟩
   replace c23 := Bool.eq_false_iff.mpr c23
   subst c23
   rw [if_neg (show ¬ (false = true) by decide)] at H
   have HC29 := Aside0.mk H
   clear H
   go_upto_region 5 with (fail)
   go_cut [27] (fun v27 wc => ∃ (kq : Nat) (x27_28 : Bool), v27 = .bool x27_28 ∧ Aside0 (spec_DbOpen.j1 kq a1 x27_28 a0_0 a0_1 l0_2 = some (r1, r2, r3, r4, r5)) ∧ Aside0 (kq ≤ kj10) ∧ Aside0 (wc.heap[gb124]? = some (.cells #[.string a0_0, .int .i64 a0_1, (.slice A0_2 l0_2.length c0_2)] 25 (0, 0))) ∧ Aside0 (wc.heap[gb125]? = some (.cells #[.string (⟨#[]⟩ : ByteArray), .int .i64 0, (.slice none 0 0), .int .i64 0, .int .i64 0] 29 (0, 0))) ∧ Aside0 (Below w.heap.size w wc))
   case first =>
    have H := HC29.out
    clear HC29
    have hnb31 := NB124_125.out
    have hnc31 := NB125_124.out
    obtain ⟨z0, z1, z2, z3, z4, z5⟩ := bz3 BK124.out
    by_cases c30 : (l0_2.length : Int) ≥ 10
    ·
     rw [if_pos c30] at H
     have c30b0 : decide (10 ≤ (l0_2.length : Int)) = true := decide_eq_true c30
     have c30b1 : decide (10 ≤ l0_2.length) = true := decide_eq_true (by omega)
     clear c30
     have H' := Aside0.mk H
     clear H
     (try rw [c30b0])
     (try rw [c30b1])
     go_wp2
     go_meet
     case rel => exact ⟨_, (true), zb13_5, H', ⟨by have := HJ10.out; omega⟩, ⟨by exact BK124.out⟩, ⟨by exact BK125.out⟩, ⟨by repeat ((with_reducible (exact HB.out)))⟩⟩
    rw [if_neg c30] at H
    have c30b0 : decide (10 ≤ (l0_2.length : Int)) = false := decide_eq_false c30
    have c30b1 : decide (10 ≤ l0_2.length) = false := decide_eq_false (by omega)
    clear c30
    have H' := Aside0.mk H
    clear H
    (try rw [c30b0])
    (try rw [c30b1])
    go_wp2
    go_meet
    case rel => exact ⟨_, (decide (a0_1 ≥ 1000000000)), zb13_5, H', ⟨by have := HJ10.out; omega⟩, ⟨by exact BK124.out⟩, ⟨by exact BK125.out⟩, ⟨by repeat ((with_reducible (exact HB.out)))⟩⟩
   case rest =>
    clear HC29
    obtain ⟨kq, x27_28, rfl, HA, HJ28, BK124, BK125, HB⟩ := hcut
    cases kq with
    | zero => exact absurd HA.out (by simp [spec_DbOpen.j1])
    | succ kj28 =>
     have H := HA.out
     clear HA
     simp only [spec_DbOpen.j1] at H
     by_cases c35 : x27_28 = true
     ·
      subst c35
      rw [if_pos rfl] at H
      replace H := Option.bind_eq_some_iff.mp H
      obtain ⟨⟨t142, t143, t144, t147, t148⟩, A360, H⟩ := H
      (try dsimp -simprocs only at H)
      have A36 := Aside0.mk A360
      clear A360
      simp only [Option.some.injEq, Prod.mk.injEq] at H
      obtain ⟨rfl, rfl, rfl, rfl, rfl⟩ := H
      go_wp2_with (((with_reducible refine gate_callee (f := 29) rfl ?_); refine goesL_ (some 28) rfl rfl Tryd.func29 (by kernel_rfl) rfl #[.int .i64 9] rfl zb10_5 ?_; (with_reducible refine (spec_l06Ill.calls 9 t142 t143 t144 t147 t148 _ A36.out).mono ?_); rintro e w37 ⟨v145, rfl, ho0, hb⟩; refine ⟨_, rfl, ?_⟩; have HO146 := Aside0.mk (Kd.R_lower ho0 (below_size zb11_5)); replace BK125 := bkb BK125 hb; replace HB := Aside0.mk (below_step zb11_5 hb); (try clear hb); (try clear ho0); have hnb38 := NB125_124.out; have hnc38 := NB124_125.out; obtain ⟨z0, z1, z2, z3, z4, z5, z6, z7, z8, z9⟩ := bz5 BK125.out; obtain ⟨Ao40, co40, eo40⟩ := Kd.R_slice HO146.out; subst eo40))
      refine bodyPost_ret (results_cell_row rfl _ _ gb125 29 #[.string t142, .int .i64 t143, .slice Ao40 t144.length co40, .int .i64 t147, .int .i64 t148] (0, 0) _ rfl (by apply bp5; exact BK125.out) Tryd.underlying29 rfl (by kernel_rfl)) rfl ?_
      exact ⟨_, by rfl, by exact Kd.R_mono (rfa (rfa (rfa (rfa (rfa (Kd.R_types HO146.out BK125.out (by decide)) (fun _ h => h.2)) (fun _ h => h.2)) (fun _ h => h.2)) (fun _ h => h.2)) (fun _ h => h.2)) (fun _ hk => trivial), by repeat ((with_reducible first | exact HB.out | refine below_set ?_ GE125.out))⟩
     replace c35 := Bool.eq_false_iff.mpr c35
     subst c35
     rw [if_neg (show ¬ (false = true) by decide)] at H
     replace H := Option.bind_eq_some_iff.mp H
     obtain ⟨⟨t149, t150, t151⟩, A410, H⟩ := H
     (try dsimp -simprocs only at H)
     have A41 := Aside0.mk A410
     clear A410
     by_cases c42 : t151.length < 2932031007402
     rotate_left
     · rw [if_neg c42] at H; exact absurd H (by simp)
     rw [if_pos c42] at H
     have LMc42 := Aside0.mk c42
     clear c42
     obtain ⟨y155, hy155⟩ : ∃ y_ : List (S43), y_ = (t151 ++ [(⟨a1, a0_1, 0, (⟨#[]⟩ : ByteArray)⟩ : S43)]) := ⟨_, rfl⟩
     replace H : (some (t149, wrap64 (a0_1 + 1), y155, a0_1, 0)) = some (r1, r2, r3, r4, r5) := by (rw [hy155]; with_reducible exact H)
     have Ny155 := Aside0.mk hy155
     clear hy155
     simp only [Option.some.injEq, Prod.mk.injEq] at H
     obtain ⟨rfl, rfl, rfl, rfl, rfl⟩ := H
     have hnb43 := NB124_125.out
     have hnc43 := NB125_124.out
     obtain ⟨z0, z1, z2, z3, z4, z5⟩ := bz3 BK124.out
     go_wp2_with (first | ((with_reducible refine gate_callee (f := 31) rfl ?_); refine goesL_ (some 30) rfl rfl Tryd.func31 (by kernel_rfl) rfl #[.agg #[.string a0_0, .int .i64 a0_1, .slice A0_2 l0_2.length c0_2]] rfl zb10_5 ?_; (with_reducible refine (spec_l06Copy.calls a0_0 a0_1 _ _ l0_2 t149 t150 t151 _ ?side1 ?side2 A41.out).mono ?_); (case side1 => repeat ((exact (Kd.C_below HR0_2.out HB.out)))); (case side2 => exact HC0_2.out); rintro e w45 ⟨v152, rfl, ho0, hb⟩; refine ⟨_, rfl, ?_⟩; have HO153 := Aside0.mk (Kd.R_lower ho0 (below_size zb11_5)); replace BK124 := bkb BK124 hb; replace BK125 := bkb BK125 hb; replace HB := Aside0.mk (below_step zb11_5 hb); (try clear hb); (try clear ho0)) | ((with_reducible refine gate_dst (N := 5) rfl ?_); refine box_event ?hg (N := 5) ?hd (cs := #[.string (⟨#[]⟩ : ByteArray), .int .i64 0, .slice none 0 0]) (t := 25) ?hr ?_; (case hd => rfl); (case hg => rfl); (case hr => (go_simp; done)); intro gb154 hg w46 hbox hb; replace HO153 := Aside0.mk (Kd.R_below (by exact HO153.out) hb); have BK154 := Aside0.mk (hbox); have GW154 := Aside0.mk ((by rw [hg]; exact (below_size zb11_5) : w.heap.size ≤ gb154)); have GE154 := Aside0.mk ((by rw [hg]; exact (below_size zb11_5) : w.heap.size ≤ gb154)); replace HB := Aside0.mk (below_step zb11_5 hb); have NB124_154 := Aside0.mk ((zb8_5 : gb124 ≠ gb154)); have NB154_124 := Aside0.mk ((zb9_5 : gb154 ≠ gb124)); replace BK124 := bkb BK124 hb; have NB125_154 := Aside0.mk ((by rw [hg]; exact Nat.ne_of_lt (blk_lt (g := gb125) (o := .cells #[.string (⟨#[]⟩ : ByteArray), .int .i64 0, .slice none 0 0, .int .i64 0, .int .i64 0] 29 (0, 0)) zb12_5) : gb125 ≠ gb154)); have NB154_125 := Aside0.mk ((by rw [hg]; exact Nat.ne_of_gt (blk_lt (g := gb125) (o := .cells #[.string (⟨#[]⟩ : ByteArray), .int .i64 0, .slice none 0 0, .int .i64 0, .int .i64 0] 29 (0, 0)) zb12_5) : gb154 ≠ gb125)); replace BK125 := bkb BK125 hb; clear hb hbox hg; have hnb47 := NB154_124.out; have hnc47 := NB124_154.out; have hnb48 := NB154_125.out; have hnc48 := NB125_154.out; obtain ⟨z0, z1, z2, z3, z4, z5⟩ := bz3 BK154.out; obtain ⟨Ao50, co50, eo50⟩ := Kd.R_slice HO153.out; subst eo50; obtain ⟨z0, z1, z2, z3, z4, z5⟩ := bz3 BK124.out) | ((with_reducible refine gate_builtin (b := .append) (xs := #[.tmp 32, .tmp 37]) rfl ?_); at_builtin; refine Kd.R_append k43 (w0 := w) w.heap.size rfl (.tmp 32) (.tmp 37) 23 43 (.agg #[(.string ⟨#[]⟩), (.int .i64 0), (.int .i64 0), (.string ⟨#[]⟩)]) 48 rfl Tryd.underlying23 info43 rfl (by decide) (by omega) (.slice Ao50 t151.length co50) t151 (⟨a1, a0_1, 0, (⟨#[]⟩ : ByteArray)⟩ : S43) [.string a1, .int .i64 a0_1, .int .i64 0, .string (⟨#[]⟩ : ByteArray)] (fun _ => True) (fun _ => False) rfl (by (go_simp; done)) ?aP (fun _ hk => hk.elim) ?aF ?aO ?aB ?aS ?aL ?_; (case aP => exact k43_mkM _ _ _ (⟨a1, a0_1, 0, (⟨#[]⟩ : ByteArray)⟩ : S43)); (case aB => exact (by repeat ((with_reducible first | exact HB.out | refine below_set ?_ GE154.out)))); (case aF => exact (fun _ _ => trivial)); (case aO => exact (by exact Kd.R_mono (rfa (rfa (rfa (Kd.R_types HO153.out BK154.out (by decide)) (fun _ h => h.2)) (fun _ h => h.2)) (fun _ h => h.2)) (fun _ hk => trivial))); (case aS => exact (below_size (by repeat ((with_reducible first | exact HB.out | refine below_set ?_ GE154.out))))); (case aL => have := LMc42.out; omega); intro v156 w52 ho hb hg hat; rw [← Ny155.out] at ho; replace BK124 := Aside0.mk (blk_grown (g := gb124) (o := .cells #[.string a0_0, .int .i64 a0_1, .slice A0_2 l0_2.length c0_2] 25 (0, 0)) (by refine blk_far ?_ NB124_154.out _; refine blk_far ?_ NB124_154.out _; refine blk_far ?_ NB124_154.out _; exact BK124.out) hg (Kd.R_ne HO153.out BK124.out (by decide))); replace BK125 := Aside0.mk (blk_grown (g := gb125) (o := .cells #[.string (⟨#[]⟩ : ByteArray), .int .i64 0, .slice none 0 0, .int .i64 0, .int .i64 0] 29 (0, 0)) (by refine blk_far ?_ NB125_154.out _; refine blk_far ?_ NB125_154.out _; refine blk_far ?_ NB125_154.out _; exact BK125.out) hg (Kd.R_ne HO153.out BK125.out (by decide))); replace BK154 := Aside0.mk (blk_grown (g := gb154) (o := .cells #[.string t149, .int .i64 t150, .slice Ao50 t151.length co50] 25 (0, 0)) (by apply bp3; exact BK154.out) hg (Kd.R_ne HO153.out BK154.out (by decide))); replace HB := Aside0.mk (hb); have HO157 := Aside0.mk (ho); clear HO153; clear ho hb hg hat; obtain ⟨Ao53, co53, eo53⟩ := Kd.R_slice HO157.out; subst eo53; obtain ⟨z0, z1, z2, z3, z4, z5⟩ := bz3 BK154.out; obtain ⟨z0, z1, z2, z3, z4, z5⟩ := bz3 BK124.out; obtain ⟨z0, z1, z2, z3, z4, z5, z6, z7, z8, z9⟩ := bz5 BK125.out))
     refine bodyPost_ret (results_cell_row rfl _ _ gb125 29 #[.string t149, .int .i64 (wrap64 (a0_1 + 1)), .slice Ao53 y155.length co53, .int .i64 a0_1, .int .i64 0] (0, 0) _ rfl (by apply bp5; refine blk_far ?_ NB125_154.out _; refine blk_far ?_ NB125_154.out _; exact BK125.out) Tryd.underlying29 rfl (by kernel_rfl)) rfl ?_
     exact ⟨_, by rfl, by exact Kd.R_mono (rfa (rfa (rfa (rfa (rfa (rfa (rfa (Kd.R_types (Kd.R_types HO157.out BK154.out (by decide)) BK125.out (by decide)) (fun _ hk => hk.1.2)) (fun _ hk => hk.1.2)) (fun _ h => h.2)) (fun _ h => h.2)) (fun _ h => h.2)) (fun _ h => h.2)) (fun _ h => h.2)) (fun _ hk => trivial), by repeat ((with_reducible first | exact HB.out | refine below_set ?_ GE125.out | refine below_set ?_ GE154.out))⟩
/-! ### spec_l06Peer: function 32 -/
def spec_l06Peer.l0 : Nat → Int → Int → ByteArray → Int → List (S43) → Option (Int)
 | 0, _, _, _, _, _ => none
 | k + 1, x1, x5, x159000, x159001, x159002 => if x5 < (x159002.length : Int) then (if 0 ≤ x5 then (if ((rd_T43 x159002 x5).f1) = x1 then (some x5) else (spec_l06Peer.l0 k x1 (wrap64 (x5 + 1)) x159000 x159001 x159002)) else (none)) else (some (-1))
def spec_l06Peer.f (k : Nat) (a0_0 : ByteArray) (a0_1 : Int) (l0_2 : List (S43)) (a1 : Int) : Option (Int) := spec_l06Peer.l0 k a1 0 a0_0 a0_1 l0_2
theorem spec_l06Peer.mono_l : ∀ k, (∀ y0 y1 y2 y3 y4, LeO (spec_l06Peer.l0 k y0 y1 y2 y3 y4) (spec_l06Peer.l0 (k + 1) y0 y1 y2 y3 y4))
 | 0 => fun _ _ _ _ _ r h => by simp [spec_l06Peer.l0] at h
 | k + 1 => by
  have ih0 := spec_l06Peer.mono_l k
  ·
   intro y0 y1 y2 y3 y4
   unfold spec_l06Peer.l0
   repeat' first
   | (with_reducible exact ih0 _ _ _ _ _)
   | (with_reducible exact LeO.refl _)
   | (with_reducible exact LeO.none _)
   | (with_reducible refine LeO.ite ?_ ?_)
   | (with_reducible refine LeO.bind ?_ (fun _ => ?_))
   | exact ih0 _ _ _ _ _
   | exact LeO.none _
   | refine LeO.ite ?_ ?_
   | refine LeO.bind ?_ (fun _ => ?_)
theorem spec_l06Peer.mono : ∀ a0 a1 a2 a3 k, LeO (spec_l06Peer.f k a0 a1 a2 a3) (spec_l06Peer.f (k + 1) a0 a1 a2 a3) := by
 intro a0 a1 a2 a3 k
 have ih0 := spec_l06Peer.mono_l k
 unfold spec_l06Peer.f
 repeat' first
   | (with_reducible exact ih0 _ _ _ _ _)
   | (with_reducible exact LeO.refl _)
   | (with_reducible exact LeO.none _)
   | (with_reducible refine LeO.ite ?_ ?_)
   | (with_reducible refine LeO.bind ?_ (fun _ => ?_))
   | exact ih0 _ _ _ _ _
   | exact LeO.none _
   | refine LeO.ite ?_ ?_
   | refine LeO.bind ?_ (fun _ => ?_)
set_option maxHeartbeats 8000000 in
set_option maxRecDepth 100000 in
theorem spec_l06Peer.calls (k : Nat) (a0_0 : ByteArray) (a0_1 : Int) (A0_2 : Option Addr) (c0_2 : Nat) (l0_2 : List (S43)) (a1 : Int) (r : Int) (w : World) (hr0_2 : Kd.C k43 w A0_2 l0_2.length l0_2) (hc0_2 : l0_2.length ≤ c0_2) (h : spec_l06Peer.f k a0_0 a0_1 l0_2 a1 = some r) :
  Calls Tryd.prog 32 #[.agg #[.string a0_0, .int .i64 a0_1, .slice A0_2 l0_2.length c0_2], .int .i64 a1] w fun e w' => e = .returned (.int .i64 r) ∧ Below w.heap.size w w' := by
 have hu25 := Tryd.underlying25
 have HR0_2 := Aside0.mk hr0_2
 have HC0_2 := Aside0.mk hc0_2
 clear hr0_2 hc0_2
 have HB := Aside0.mk (Below.refl w.heap.size w)
 have H : (spec_l06Peer.l0 k a1 0 a0_0 a0_1 l0_2) = some r := h
 clear h
 have H' := Aside0.mk H
 clear H
 go_enter Tryd.func32, Tryd.ntmps32
 go_wp2_with (((with_reducible refine gate_dst (N := 2) rfl ?_); refine box_event ?hg (N := 2) ?hd (cs := #[.string a0_0, .int .i64 a0_1, .slice A0_2 l0_2.length c0_2]) (t := 25) ?hr ?_; (case hd => rfl); (case hg => rfl); (case hr => (go_simp; done)); intro gb158 hg w3 hbox hb; have BK158 := Aside0.mk (hbox); have GW158 := Aside0.mk ((zb1_5 : w.heap.size ≤ gb158)); have GE158 := GW158; replace HB := Aside0.mk (below_step zb0_5 hb); clear hb hbox hg))
 go_loopg [5] k (fun kq v5 w' => ∃ (x5_1 : Int), v5 = .int .i64 x5_1 ∧ Aside0 (spec_l06Peer.l0 kq a1 x5_1 a0_0 a0_1 l0_2 = some r) ∧ Aside0 (kq ≤ k) ∧ Aside0 (w'.heap[gb158]? = some (.cells #[.string a0_0, .int .i64 a0_1, (.slice A0_2 l0_2.length c0_2)] 25 (0, 0))) ∧ Aside0 (Below w.heap.size w w'))
 case atStart => exact ⟨(0), zb13_5, H', ⟨Nat.le_refl _⟩, ⟨by exact BK158.out⟩, ⟨by repeat ((with_reducible (exact HB.out)))⟩⟩
 case round =>
  clear H'
  obtain ⟨x5_1, rfl, HA, HK1, BK158, HB⟩ := hrel
  cases gk with
  | zero => exact absurd HA.out (by simp [spec_l06Peer.l0])
  | succ k1 =>
   have H := HA.out
   clear HA
   simp only [spec_l06Peer.l0] at H
   obtain ⟨z0, z1, z2, z3, z4, z5⟩ := bz3 BK158.out
   by_cases c4 : x5_1 < (l0_2.length : Int)
   rotate_left
   · rw [if_neg c4] at H; have c4b0 := decide_eq_false c4; clear c4; obtain rfl := Option.some.inj H; (try rw [c4b0]); go_wp2; go_ret; exact ⟨by rfl, by repeat ((with_reducible (exact HB.out)))⟩
   rw [if_pos c4] at H
   have c4b0 := decide_eq_true c4
   clear c4
   (try rw [c4b0])
   by_cases c5 : 0 ≤ x5_1
   rotate_left
   · rw [if_neg c5] at H; exact absurd H (by simp)
   rw [if_pos c5] at H
   have c5b0 := decide_eq_true c5
   clear c5
   have p159 : 0 ≤ (x5_1 : Int) := of_decide_eq_true zb14_5
   have q159 : x5_1 < (l0_2.length : Int) := of_decide_eq_true zb14_5
   obtain ⟨ad159, e159, hx159_0, hx159_1, hx159_2, hx159_3⟩ := at_T43 HR0_2.out x5_1 p159 q159
   cases e159
   replace hx159_0 := (HB.out.cell (World.block_lt_of_cell? w _ hx159_0)).trans hx159_0
   replace hx159_1 := (HB.out.cell (World.block_lt_of_cell? w _ hx159_1)).trans hx159_1
   replace hx159_2 := (HB.out.cell (World.block_lt_of_cell? w _ hx159_2)).trans hx159_2
   replace hx159_3 := (HB.out.cell (World.block_lt_of_cell? w _ hx159_3)).trans hx159_3
   replace p159 := eq_true p159
   replace q159 := eq_true q159
   by_cases c6 : ((rd_T43 l0_2 x5_1).f1) = a1
   ·
    rw [if_pos c6] at H
    have c6b0 : (((rd_T43 l0_2 x5_1).f1) == a1) = true := beq_iff_eq.mpr c6
    have c6b1 : (((rd_T43 l0_2 x5_1).f1) != a1) = false := bne_eq_false_iff_eq.mpr c6
    clear c6
    obtain rfl := Option.some.inj H
    (try rw [c6b0])
    (try rw [c6b1])
    go_wp2
    go_ret
    exact ⟨by rfl, by repeat ((with_reducible (exact HB.out)))⟩
   rw [if_neg c6] at H
   have c6b0 : (((rd_T43 l0_2 x5_1).f1) == a1) = false := beq_eq_false_iff_ne.mpr c6
   have c6b1 : (((rd_T43 l0_2 x5_1).f1) != a1) = true := bne_iff_ne.mpr c6
   have H' := Aside0.mk H
   clear H
   (try rw [c6b0])
   (try rw [c6b1])
   go_wp2
   go_roundg k1
   case measure => have := HK1.out; omega
   case rel => exact ⟨(wrap64 (x5_1 + 1)), zb13_5, H', ⟨by have := HK1.out; omega⟩, ⟨by exact BK158.out⟩, ⟨by repeat ((with_reducible (exact HB.out)))⟩⟩
end Go.Proofs.YtfijkimkdccioaaDoor.QFnDialback
