-- laid by this session's own runner (wip/print2.py): not a printed file
import Derived.Test.YtfijkimkdccioaaDoorQFnDialbackx0
import Derived.Test.YtfijkimkdccioaaDoorQFnDialbackx2
import Derived.Test.YtfijkimkdccioaaDoorQFnDialbackx4
import Derived.Test.YtfijkimkdccioaaDoorQFnDialbackx5
namespace Go.Proofs.YtfijkimkdccioaaDoor.QFnDialback
open Go.RowKit Go.Proofs.YtfijkimkdccioaaDoorW.PrintWords Go.Proofs.YtfijkimkdccioaaDoorW.PrintLast Go.Proofs.YtfijkimkdccioaaDoorW.PrintMore
attribute [local go_sem] max2_int min2_int max_two min_two max_three min_three max_four min_four   -- for this text's walks alone
set_option linter.unusedVariables false
set_option linter.unusedSimpArgs false

theorem bcq_6 {w : World} {g t : Nat} {cs : Array Value} {v : Value} (h : w.heap[g]? = some (.cells cs t (0, 0))) (j : Nat) (e : cs[j]? = some v := by rfl) : w.cell? ⟨g, j, none⟩ = some v := (blk_cell h j).trans e
theorem zb0_6 {P : Prop} (h : P := by repeat ((with_reducible (exact HB.out)))) : P := h
theorem zb1_6 {P : Prop} (h : P := by rw [hg]; exact (below_size (by repeat ((with_reducible (exact HB.out)))))) : P := h
theorem zb2_6 {P : Prop} (h : P := by exact BK160.out) : P := h
theorem zb3_6 {P : Prop} (h : P := by repeat ((with_reducible (exact HB.out)))) : P := h
theorem zb4_6 {P : Prop} (h : P := by rw [hg]; exact (below_size (by repeat ((with_reducible (exact HB.out)))))) : P := h
theorem zb5_6 {P : Prop} (h : P := by rw [hg]; exact Nat.ne_of_lt (blk_lt (g := gb160) (o := .cells #[.string a0_0, .int .i64 a0_1, .slice A0_2 l0_2.length c0_2] 25 (0, 0)) (by exact BK160.out))) : P := h
theorem zb6_6 {P : Prop} (h : P := by rw [hg]; exact Nat.ne_of_gt (blk_lt (g := gb160) (o := .cells #[.string a0_0, .int .i64 a0_1, .slice A0_2 l0_2.length c0_2] 25 (0, 0)) (by exact BK160.out))) : P := h
theorem zb7_6 {P : Prop} (h : P := by (try simp only [List.map_toArray, List.map_cons, List.map_nil]); rfl) : P := h
theorem zb8_6 {P : Prop} (h : P := by repeat ((with_reducible (exact HB.out)))) : P := h
theorem zb9_6 {P : Prop} (h : P := by exact BK161.out) : P := h
theorem zb10_6 {P : Prop} (h : P := by (with_reducible assumption)) : P := h
theorem zb11_6 {P : Prop} (h : P := by exact HO197.out) : P := h
theorem zb12_6 {P : Prop} (h : P := by exact BK208.out) : P := h
theorem zb13_6 {P : Prop} (h : P := by repeat ((with_reducible (exact HB.out)))) : P := h
theorem zb14_6 {P : Prop} (h : P := by rw [hg]; exact (below_size (by repeat ((with_reducible (exact HB.out)))))) : P := h
theorem zb15_6 {P : Prop} (h : P := by rw [hg]; exact Nat.ne_of_lt (blk_lt (g := gb208) (o := .cells #[.string a0_0, .int .i64 a0_1, .slice A0_2 l0_2.length c0_2] 25 (0, 0)) (by exact BK208.out))) : P := h
theorem zb16_6 {P : Prop} (h : P := by rw [hg]; exact Nat.ne_of_gt (blk_lt (g := gb208) (o := .cells #[.string a0_0, .int .i64 a0_1, .slice A0_2 l0_2.length c0_2] 25 (0, 0)) (by exact BK208.out))) : P := h
theorem zb17_6 {P : Prop} (h : P := by exact BK209.out) : P := h
theorem zb18_6 {P : Prop} (h : P := by repeat ((with_reducible (exact HB.out)))) : P := h
theorem zb19_6 {P : Prop} (h : P := by exact HO231.out) : P := h
theorem zb20_6 {P : Prop} (h : P := by rw [hg]; exact (below_size (by repeat ((with_reducible (exact HB.out)))))) : P := h
theorem zb21_6 {P : Prop} (h : P := by exact BK232.out) : P := h
/-! ### spec_DbResult: function 12 -/
def spec_DbResult.j0 : Nat → ByteArray → Int → Bool → ByteArray → Int → List (S43) → Option (ByteArray × Int × (List (S43)) × Int × Int)
 | 0, _, _, _, _, _, _ => none
 | k + 1, x2, x7, x24, x161000, x161001, x161002 => if x24 = true then ((spec_l06Ill.f 1).bind fun bt185 => (some (bt185.1, bt185.2.1, bt185.2.2.1, bt185.2.2.2.1, bt185.2.2.2.2))) else (if 0 ≤ x7 then (if x7 < (x161002.length : Int) then (if ((rd_T43 x161002 x7).f2) = 0 then ((spec_l06Copy.f x161000 x161001 x161002).bind fun bt193 => (if x7 < (bt193.2.2.length : Int) then ((some (bt193.2.2.set (x7 : Int).toNat (⟨(rd_T43 bt193.2.2 x7).f0, (rd_T43 bt193.2.2 x7).f1, 1, (rd_T43 bt193.2.2 x7).f3⟩ : S43) : List (S43))).bind fun y199 => (some (bt193.1, bt193.2.1, (y199.set (x7 : Int).toNat (⟨(rd_T43 y199 x7).f0, (rd_T43 y199 x7).f1, (rd_T43 y199 x7).f2, x2⟩ : S43)), 0, 0))) else (none))) else ((spec_l06Ill.f 10).bind fun bt201 => (some (bt201.1, bt201.2.1, bt201.2.2.1, bt201.2.2.2.1, bt201.2.2.2.2)))) else (none)) else (none))
def spec_DbResult.f (k : Nat) (a0_0 : ByteArray) (a0_1 : Int) (l0_2 : List (S43)) (a1 : Int) (a2 : ByteArray) : Option (ByteArray × Int × (List (S43)) × Int × Int) := if (a2.size : Int) > 20000 then ((spec_l06Ill.f 2).bind fun bt162 => (some (bt162.1, bt162.2.1, bt162.2.2.1, bt162.2.2.2.1, bt162.2.2.2.2))) else ((spec_DialbackRight.f k a0_0 a0_1 l0_2).bind fun t169 => (if t169 = true then ((spec_l06Peer.f k a0_0 a0_1 l0_2 a1).bind fun t177 => (if t177 < 0 then ((spec_l06Ill.f 6).bind fun bt178 => (some (bt178.1, bt178.2.1, bt178.2.2.1, bt178.2.2.2.1, bt178.2.2.2.2))) else (if a2.toList = ([] : List UInt8) then (spec_DbResult.j0 k a2 t177 true a0_0 a0_1 l0_2) else (spec_DbResult.j0 k a2 t177 (decide ((a2.size : Int) > 64)) a0_0 a0_1 l0_2)))) else ((spec_l06Ill.f 1).bind fun bt170 => (some (bt170.1, bt170.2.1, bt170.2.2.1, bt170.2.2.2.1, bt170.2.2.2.2)))))
theorem spec_DbResult.mono_l : ∀ k, (∀ y0 y1 y2 y3 y4 y5, LeO (spec_DbResult.j0 k y0 y1 y2 y3 y4 y5) (spec_DbResult.j0 (k + 1) y0 y1 y2 y3 y4 y5))
 | 0 => fun _ _ _ _ _ _ r h => by simp [spec_DbResult.j0] at h
 | k + 1 => by
  have ih0 := spec_DbResult.mono_l k
  ·
   intro y0 y1 y2 y3 y4 y5
   unfold spec_DbResult.j0
   repeat' first
   | (with_reducible exact ih0 _ _ _ _ _ _)
   | (with_reducible exact spec_DialbackRight.mono _ _ _ _)
   | (with_reducible exact spec_l06Peer.mono _ _ _ _ _)
   | (with_reducible exact LeO.refl _)
   | (with_reducible exact LeO.none _)
   | (with_reducible refine LeO.ite ?_ ?_)
   | (with_reducible refine LeO.bind ?_ (fun _ => ?_))
   | exact ih0 _ _ _ _ _ _
   | exact spec_DialbackRight.mono _ _ _ _
   | exact spec_l06Peer.mono _ _ _ _ _
   | exact LeO.none _
   | refine LeO.ite ?_ ?_
   | refine LeO.bind ?_ (fun _ => ?_)
theorem spec_DbResult.mono : ∀ a0 a1 a2 a3 a4 k, LeO (spec_DbResult.f k a0 a1 a2 a3 a4) (spec_DbResult.f (k + 1) a0 a1 a2 a3 a4) := by
 intro a0 a1 a2 a3 a4 k
 have ih0 := spec_DbResult.mono_l k
 unfold spec_DbResult.f
 repeat' first
   | (with_reducible exact ih0 _ _ _ _ _ _)
   | (with_reducible exact spec_DialbackRight.mono _ _ _ _)
   | (with_reducible exact spec_l06Peer.mono _ _ _ _ _)
   | (with_reducible exact LeO.refl _)
   | (with_reducible exact LeO.none _)
   | (with_reducible refine LeO.ite ?_ ?_)
   | (with_reducible refine LeO.bind ?_ (fun _ => ?_))
   | exact ih0 _ _ _ _ _ _
   | exact spec_DialbackRight.mono _ _ _ _
   | exact spec_l06Peer.mono _ _ _ _ _
   | exact LeO.none _
   | refine LeO.ite ?_ ?_
   | refine LeO.bind ?_ (fun _ => ?_)
set_option maxHeartbeats 8000000 in
set_option maxRecDepth 100000 in
theorem spec_DbResult.calls (k : Nat) (a0_0 : ByteArray) (a0_1 : Int) (A0_2 : Option Addr) (c0_2 : Nat) (l0_2 : List (S43)) (a1 : Int) (a2 : ByteArray) (r1 : ByteArray) (r2 : Int) (r3 : List (S43)) (r4 : Int) (r5 : Int) (w : World) (hr0_2 : Kd.C k43 w A0_2 l0_2.length l0_2) (hc0_2 : l0_2.length ≤ c0_2) (h : spec_DbResult.f k a0_0 a0_1 l0_2 a1 a2 = some (r1, r2, r3, r4, r5)) :
  Calls Tryd.prog 12 #[.agg #[.string a0_0, .int .i64 a0_1, .slice A0_2 l0_2.length c0_2], .int .i64 a1, .string a2] w fun e w' => ∃ v2_ : Value, e = .returned (.agg #[.string r1, .int .i64 r2, v2_, .int .i64 r4, .int .i64 r5]) ∧ Kd.R k43 43 w' w.heap.size (fun _ => True) v2_ r3 ∧ Below w.heap.size w w' := by
 have hu25 := Tryd.underlying25
 have hu29 := Tryd.underlying29
 have HR0_2 := Aside0.mk hr0_2
 have HC0_2 := Aside0.mk hc0_2
 clear hr0_2 hc0_2
 have HB := Aside0.mk (Below.refl w.heap.size w)
 have H : (if (a2.size : Int) > 20000 then ((spec_l06Ill.f 2).bind fun bt162 => (some (bt162.1, bt162.2.1, bt162.2.2.1, bt162.2.2.2.1, bt162.2.2.2.2))) else ((spec_DialbackRight.f k a0_0 a0_1 l0_2).bind fun t169 => (if t169 = true then ((spec_l06Peer.f k a0_0 a0_1 l0_2 a1).bind fun t177 => (if t177 < 0 then ((spec_l06Ill.f 6).bind fun bt178 => (some (bt178.1, bt178.2.1, bt178.2.2.1, bt178.2.2.2.1, bt178.2.2.2.2))) else (if a2.toList = ([] : List UInt8) then (spec_DbResult.j0 k a2 t177 true a0_0 a0_1 l0_2) else (spec_DbResult.j0 k a2 t177 (decide ((a2.size : Int) > 64)) a0_0 a0_1 l0_2)))) else ((spec_l06Ill.f 1).bind fun bt170 => (some (bt170.1, bt170.2.1, bt170.2.2.1, bt170.2.2.2.1, bt170.2.2.2.2)))))) = some (r1, r2, r3, r4, r5) := h
 clear h
 by_cases c4 : (a2.size : Int) > 20000
 ·
  rw [if_pos c4] at H
  have c4b0 : decide (20000 < (a2.size : Int)) = true := decide_eq_true c4
  have c4b1 : decide (20000 < a2.size) = true := decide_eq_true (by omega)
  clear c4
  replace H := Option.bind_eq_some_iff.mp H
  obtain ⟨⟨t162, t163, t164, t167, t168⟩, A50, H⟩ := H
  (try dsimp -simprocs only at H)
  have A5 := Aside0.mk A50
  clear A50
  simp only [Option.some.injEq, Prod.mk.injEq] at H
  obtain ⟨rfl, rfl, rfl, rfl, rfl⟩ := H
  go_enter Tryd.func12, Tryd.ntmps12
  go_wp2_with (first | ((with_reducible refine gate_dst (N := 3) rfl ?_); (try (refine gate_guard (by rfl) ?_; dsimp only)); refine box_event ?hg (N := 3) ?hd (cs := #[.string a0_0, .int .i64 a0_1, .slice A0_2 l0_2.length c0_2]) (t := 25) ?hr ?_; (case hd => rfl); (case hg => rfl); (case hr => (go_simp; done)); intro gb160 hg w6 hbox hb; have BK160 := Aside0.mk (hbox); have GW160 := Aside0.mk ((zb1_6 : w.heap.size ≤ gb160)); have GE160 := GW160; replace HB := Aside0.mk (below_step zb0_6 hb); clear hb hbox hg) | ((with_reducible refine gate_dst (N := 6) rfl ?_); (try (refine gate_guard (by rfl) ?_; dsimp only)); refine box_event ?hg (N := 6) ?hd (cs := #[.string (⟨#[]⟩ : ByteArray), .int .i64 0, .slice none 0 0, .int .i64 0, .int .i64 0]) (t := 29) ?hr ?_; (case hd => rfl); (case hg => rfl); (case hr => (go_simp; done)); intro gb161 hg w7 hbox hb; have BK161 := Aside0.mk (hbox); have GW161 := Aside0.mk ((zb4_6 : w.heap.size ≤ gb161)); have GE161 := GW161; replace HB := Aside0.mk (below_step zb3_6 hb); have NB160_161 := Aside0.mk ((zb5_6 : gb160 ≠ gb161)); have NB161_160 := Aside0.mk ((zb6_6 : gb161 ≠ gb160)); replace BK160 := bkb BK160 hb; clear hb hbox hg) | ((with_reducible refine gate_callee (f := 29) rfl ?_); refine goesL_ (some 12) rfl rfl Tryd.func29 (by kernel_rfl) rfl #[.int .i64 2] rfl zb7_6 ?_; (with_reducible refine (spec_l06Ill.calls 2 t162 t163 t164 t167 t168 _ A5.out).mono ?_); rintro e w8 ⟨v165, rfl, ho0, hb⟩; refine ⟨_, rfl, ?_⟩; have HO166 := Aside0.mk (Kd.R_lower ho0 (below_size zb8_6)); replace BK160 := bkb BK160 hb; replace BK161 := bkb BK161 hb; replace HB := Aside0.mk (below_step zb8_6 hb); (try clear hb); (try clear ho0); have hnb9 := NB161_160.out; have hnc9 := NB160_161.out; obtain ⟨z0, z1, z2, z3, z4, z5, z6, z7, z8, z9⟩ := bz5 BK161.out; obtain ⟨Ao11, co11, eo11⟩ := Kd.R_slice HO166.out; subst eo11))
  refine bodyPost_ret (results_cell_row rfl _ _ gb161 29 #[.string t162, .int .i64 t163, .slice Ao11 t164.length co11, .int .i64 t167, .int .i64 t168] (0, 0) _ rfl (by apply bp5; exact BK161.out) Tryd.underlying29 rfl (by kernel_rfl)) rfl ?_
  exact ⟨_, by rfl, by exact Kd.R_mono (rfa (rfa (rfa (rfa (rfa (Kd.R_types HO166.out BK161.out (by decide)) (fun _ h => h.2)) (fun _ h => h.2)) (fun _ h => h.2)) (fun _ h => h.2)) (fun _ h => h.2)) (fun _ hk => trivial), by repeat ((with_reducible first | exact HB.out | refine below_set ?_ GE161.out))⟩
 rw [if_neg c4] at H
 have c4b0 : decide (20000 < (a2.size : Int)) = false := decide_eq_false c4
 have c4b1 : decide (20000 < a2.size) = false := decide_eq_false (by omega)
 clear c4
 replace H := Option.bind_eq_some_iff.mp H
 obtain ⟨t169, A120, H⟩ := H
 (try dsimp -simprocs only at H)
 have A12 := Aside0.mk A120
 clear A120
 by_cases c13 : t169 = true
 rotate_left
 ·
  replace c13 := Bool.eq_false_iff.mpr c13
  subst c13
  rw [if_neg (show ¬ (false = true) by decide)] at H
  replace H := Option.bind_eq_some_iff.mp H
  obtain ⟨⟨t170, t171, t172, t175, t176⟩, A720, H⟩ := H
  (try dsimp -simprocs only at H)
  have A72 := Aside0.mk A720
  clear A720
  simp only [Option.some.injEq, Prod.mk.injEq] at H
  obtain ⟨rfl, rfl, rfl, rfl, rfl⟩ := H
  go_enter Tryd.func12, Tryd.ntmps12
  go_wp2_with (first | ((with_reducible refine gate_dst (N := 3) rfl ?_); (try (refine gate_guard (by rfl) ?_; dsimp only)); refine box_event ?hg (N := 3) ?hd (cs := #[.string a0_0, .int .i64 a0_1, .slice A0_2 l0_2.length c0_2]) (t := 25) ?hr ?_; (case hd => rfl); (case hg => rfl); (case hr => (go_simp; done)); intro gb160 hg w73 hbox hb; have BK160 := Aside0.mk (hbox); have GW160 := Aside0.mk ((zb1_6 : w.heap.size ≤ gb160)); have GE160 := GW160; replace HB := Aside0.mk (below_step zb0_6 hb); clear hb hbox hg) | ((with_reducible refine gate_dst (N := 6) rfl ?_); (try (refine gate_guard (by rfl) ?_; dsimp only)); refine box_event ?hg (N := 6) ?hd (cs := #[.string (⟨#[]⟩ : ByteArray), .int .i64 0, .slice none 0 0, .int .i64 0, .int .i64 0]) (t := 29) ?hr ?_; (case hd => rfl); (case hg => rfl); (case hr => (go_simp; done)); intro gb161 hg w74 hbox hb; have BK161 := Aside0.mk (hbox); have GW161 := Aside0.mk ((zb4_6 : w.heap.size ≤ gb161)); have GE161 := GW161; replace HB := Aside0.mk (below_step zb3_6 hb); have NB160_161 := Aside0.mk ((zb5_6 : gb160 ≠ gb161)); have NB161_160 := Aside0.mk ((zb6_6 : gb161 ≠ gb160)); replace BK160 := bkb BK160 hb; clear hb hbox hg; have hnb75 := NB160_161.out; have hnc75 := NB161_160.out; obtain ⟨z0, z1, z2, z3, z4, z5⟩ := bz3 BK160.out) | ((with_reducible refine gate_callee (f := 15) rfl ?_); refine goesL_ (some 14) rfl rfl Tryd.func15 (by kernel_rfl) rfl #[.agg #[.string a0_0, .int .i64 a0_1, .slice A0_2 l0_2.length c0_2]] rfl zb7_6 ?_; (with_reducible refine (spec_DialbackRight.calls k a0_0 a0_1 _ _ l0_2 false _ ?side1 ?side2 A12.out).mono ?_); (case side1 => repeat ((exact (Kd.C_below HR0_2.out HB.out)))); (case side2 => exact HC0_2.out); rintro e w77 ⟨rfl, hb⟩; refine ⟨_, rfl, ?_⟩; replace BK160 := bkb BK160 hb; replace BK161 := bkb BK161 hb; replace HB := Aside0.mk (below_step zb8_6 hb); (try clear hb)) | ((with_reducible refine gate_callee (f := 29) rfl ?_); refine goesL_ (some 16) rfl rfl Tryd.func29 (by kernel_rfl) rfl #[.int .i64 1] rfl zb7_6 ?_; (with_reducible refine (spec_l06Ill.calls 1 t170 t171 t172 t175 t176 _ A72.out).mono ?_); rintro e w78 ⟨v173, rfl, ho0, hb⟩; refine ⟨_, rfl, ?_⟩; have HO174 := Aside0.mk (Kd.R_lower ho0 (below_size zb8_6)); replace BK160 := bkb BK160 hb; replace BK161 := bkb BK161 hb; replace HB := Aside0.mk (below_step zb8_6 hb); (try clear hb); (try clear ho0); obtain ⟨z0, z1, z2, z3, z4, z5, z6, z7, z8, z9⟩ := bz5 BK161.out; obtain ⟨Ao80, co80, eo80⟩ := Kd.R_slice HO174.out; subst eo80))
  refine bodyPost_ret (results_cell_row rfl _ _ gb161 29 #[.string t170, .int .i64 t171, .slice Ao80 t172.length co80, .int .i64 t175, .int .i64 t176] (0, 0) _ rfl (by apply bp5; exact BK161.out) Tryd.underlying29 rfl (by kernel_rfl)) rfl ?_
  exact ⟨_, by rfl, by exact Kd.R_mono (rfa (rfa (rfa (rfa (rfa (Kd.R_types HO174.out BK161.out (by decide)) (fun _ h => h.2)) (fun _ h => h.2)) (fun _ h => h.2)) (fun _ h => h.2)) (fun _ h => h.2)) (fun _ hk => trivial), by repeat ((with_reducible first | exact HB.out | refine below_set ?_ GE161.out))⟩
 subst c13
 rw [if_pos rfl] at H
 replace H := Option.bind_eq_some_iff.mp H
 obtain ⟨t177, A140, H⟩ := H
 (try dsimp -simprocs only at H)
 have A14 := Aside0.mk A140
 clear A140
 by_cases c15 : t177 < 0
 ·
  rw [if_pos c15] at H
  have c15b0 := decide_eq_true c15
  clear c15
  replace H := Option.bind_eq_some_iff.mp H
  obtain ⟨⟨t178, t179, t180, t183, t184⟩, A160, H⟩ := H
  (try dsimp -simprocs only at H)
  have A16 := Aside0.mk A160
  clear A160
  simp only [Option.some.injEq, Prod.mk.injEq] at H
  obtain ⟨rfl, rfl, rfl, rfl, rfl⟩ := H
  go_enter Tryd.func12, Tryd.ntmps12
  go_wp2_with (first | ((with_reducible refine gate_dst (N := 3) rfl ?_); (try (refine gate_guard (by rfl) ?_; dsimp only)); refine box_event ?hg (N := 3) ?hd (cs := #[.string a0_0, .int .i64 a0_1, .slice A0_2 l0_2.length c0_2]) (t := 25) ?hr ?_; (case hd => rfl); (case hg => rfl); (case hr => (go_simp; done)); intro gb160 hg w17 hbox hb; have BK160 := Aside0.mk (hbox); have GW160 := Aside0.mk ((zb1_6 : w.heap.size ≤ gb160)); have GE160 := GW160; replace HB := Aside0.mk (below_step zb0_6 hb); clear hb hbox hg) | ((with_reducible refine gate_dst (N := 6) rfl ?_); (try (refine gate_guard (by rfl) ?_; dsimp only)); refine box_event ?hg (N := 6) ?hd (cs := #[.string (⟨#[]⟩ : ByteArray), .int .i64 0, .slice none 0 0, .int .i64 0, .int .i64 0]) (t := 29) ?hr ?_; (case hd => rfl); (case hg => rfl); (case hr => (go_simp; done)); intro gb161 hg w18 hbox hb; have BK161 := Aside0.mk (hbox); have GW161 := Aside0.mk ((zb4_6 : w.heap.size ≤ gb161)); have GE161 := GW161; replace HB := Aside0.mk (below_step zb3_6 hb); have NB160_161 := Aside0.mk ((zb5_6 : gb160 ≠ gb161)); have NB161_160 := Aside0.mk ((zb6_6 : gb161 ≠ gb160)); replace BK160 := bkb BK160 hb; clear hb hbox hg; have hnb19 := NB160_161.out; have hnc19 := NB161_160.out; obtain ⟨z0, z1, z2, z3, z4, z5⟩ := bz3 BK160.out) | ((with_reducible refine gate_callee (f := 15) rfl ?_); refine goesL_ (some 14) rfl rfl Tryd.func15 (by kernel_rfl) rfl #[.agg #[.string a0_0, .int .i64 a0_1, .slice A0_2 l0_2.length c0_2]] rfl zb7_6 ?_; (with_reducible refine (spec_DialbackRight.calls k a0_0 a0_1 _ _ l0_2 true _ ?side1 ?side2 A12.out).mono ?_); (case side1 => repeat ((exact (Kd.C_below HR0_2.out HB.out)))); (case side2 => exact HC0_2.out); rintro e w21 ⟨rfl, hb⟩; refine ⟨_, rfl, ?_⟩; replace BK160 := bkb BK160 hb; replace BK161 := bkb BK161 hb; replace HB := Aside0.mk (below_step zb8_6 hb); (try clear hb); obtain ⟨z0, z1, z2, z3, z4, z5⟩ := bz3 BK160.out) | ((with_reducible refine gate_callee (f := 32) rfl ?_); refine goesL_ (some 19) rfl rfl Tryd.func32 (by kernel_rfl) rfl #[.agg #[.string a0_0, .int .i64 a0_1, .slice A0_2 l0_2.length c0_2], .int .i64 a1] rfl zb7_6 ?_; (with_reducible refine (spec_l06Peer.calls k a0_0 a0_1 _ _ l0_2 a1 t177 _ ?side1 ?side2 A14.out).mono ?_); (case side1 => repeat ((exact (Kd.C_below HR0_2.out HB.out)))); (case side2 => exact HC0_2.out); rintro e w23 ⟨rfl, hb⟩; refine ⟨_, rfl, ?_⟩; replace BK160 := bkb BK160 hb; replace BK161 := bkb BK161 hb; replace HB := Aside0.mk (below_step zb8_6 hb); (try clear hb)) | ((with_reducible refine gate_callee (f := 29) rfl ?_); refine goesL_ (some 23) rfl rfl Tryd.func29 (by kernel_rfl) rfl #[.int .i64 6] rfl zb7_6 ?_; (with_reducible refine (spec_l06Ill.calls 6 t178 t179 t180 t183 t184 _ A16.out).mono ?_); rintro e w24 ⟨v181, rfl, ho0, hb⟩; refine ⟨_, rfl, ?_⟩; have HO182 := Aside0.mk (Kd.R_lower ho0 (below_size zb8_6)); replace BK160 := bkb BK160 hb; replace BK161 := bkb BK161 hb; replace HB := Aside0.mk (below_step zb8_6 hb); (try clear hb); (try clear ho0); obtain ⟨z0, z1, z2, z3, z4, z5, z6, z7, z8, z9⟩ := bz5 BK161.out; obtain ⟨Ao26, co26, eo26⟩ := Kd.R_slice HO182.out; subst eo26))
  refine bodyPost_ret (results_cell_row rfl _ _ gb161 29 #[.string t178, .int .i64 t179, .slice Ao26 t180.length co26, .int .i64 t183, .int .i64 t184] (0, 0) _ rfl (by apply bp5; exact BK161.out) Tryd.underlying29 rfl (by kernel_rfl)) rfl ?_
  exact ⟨_, by rfl, by exact Kd.R_mono (rfa (rfa (rfa (rfa (rfa (Kd.R_types HO182.out BK161.out (by decide)) (fun _ h => h.2)) (fun _ h => h.2)) (fun _ h => h.2)) (fun _ h => h.2)) (fun _ h => h.2)) (fun _ hk => trivial), by repeat ((with_reducible first | exact HB.out | refine below_set ?_ GE161.out))⟩
 rw [if_neg c15] at H
 have c15b0 := decide_eq_false c15
 clear c15
 have HC27 := Aside0.mk H
 clear H
 go_enter Tryd.func12, Tryd.ntmps12
 go_upto_region 8 with (first | ((with_reducible refine gate_dst (N := 3) rfl ?_); (try (refine gate_guard (by rfl) ?_; dsimp only)); refine box_event ?hg (N := 3) ?hd (cs := #[.string a0_0, .int .i64 a0_1, .slice A0_2 l0_2.length c0_2]) (t := 25) ?hr ?_; (case hd => rfl); (case hg => rfl); (case hr => (go_simp; done)); intro gb160 hg w28 hbox hb; have BK160 := Aside0.mk (hbox); have GW160 := Aside0.mk ((zb1_6 : w.heap.size ≤ gb160)); have GE160 := GW160; replace HB := Aside0.mk (below_step zb0_6 hb); clear hb hbox hg) | ((with_reducible refine gate_dst (N := 6) rfl ?_); (try (refine gate_guard (by rfl) ?_; dsimp only)); refine box_event ?hg (N := 6) ?hd (cs := #[.string (⟨#[]⟩ : ByteArray), .int .i64 0, .slice none 0 0, .int .i64 0, .int .i64 0]) (t := 29) ?hr ?_; (case hd => rfl); (case hg => rfl); (case hr => (go_simp; done)); intro gb161 hg w29 hbox hb; have BK161 := Aside0.mk (hbox); have GW161 := Aside0.mk ((zb4_6 : w.heap.size ≤ gb161)); have GE161 := GW161; replace HB := Aside0.mk (below_step zb3_6 hb); have NB160_161 := Aside0.mk ((zb5_6 : gb160 ≠ gb161)); have NB161_160 := Aside0.mk ((zb6_6 : gb161 ≠ gb160)); replace BK160 := bkb BK160 hb; clear hb hbox hg; have hnb30 := NB160_161.out; have hnc30 := NB161_160.out; obtain ⟨z0, z1, z2, z3, z4, z5⟩ := bz3 BK160.out) | ((with_reducible refine gate_callee (f := 15) rfl ?_); refine goesL_ (some 14) rfl rfl Tryd.func15 (by kernel_rfl) rfl #[.agg #[.string a0_0, .int .i64 a0_1, .slice A0_2 l0_2.length c0_2]] rfl zb7_6 ?_; (with_reducible refine (spec_DialbackRight.calls k a0_0 a0_1 _ _ l0_2 true _ ?side1 ?side2 A12.out).mono ?_); (case side1 => repeat ((exact (Kd.C_below HR0_2.out HB.out)))); (case side2 => exact HC0_2.out); rintro e w32 ⟨rfl, hb⟩; refine ⟨_, rfl, ?_⟩; replace BK160 := bkb BK160 hb; replace BK161 := bkb BK161 hb; replace HB := Aside0.mk (below_step zb8_6 hb); (try clear hb); obtain ⟨z0, z1, z2, z3, z4, z5⟩ := bz3 BK160.out) | ((with_reducible refine gate_callee (f := 32) rfl ?_); refine goesL_ (some 19) rfl rfl Tryd.func32 (by kernel_rfl) rfl #[.agg #[.string a0_0, .int .i64 a0_1, .slice A0_2 l0_2.length c0_2], .int .i64 a1] rfl zb7_6 ?_; (with_reducible refine (spec_l06Peer.calls k a0_0 a0_1 _ _ l0_2 a1 t177 _ ?side1 ?side2 A14.out).mono ?_); (case side1 => repeat ((exact (Kd.C_below HR0_2.out HB.out)))); (case side2 => exact HC0_2.out); rintro e w34 ⟨rfl, hb⟩; refine ⟨_, rfl, ?_⟩; replace BK160 := bkb BK160 hb; replace BK161 := bkb BK161 hb; replace HB := Aside0.mk (below_step zb8_6 hb); (try clear hb)))
 go_cut [24] (fun v24 wc => ∃ (kq : Nat) (x24_26 : Bool), v24 = .bool x24_26 ∧ Aside0 (spec_DbResult.j0 kq a2 t177 x24_26 a0_0 a0_1 l0_2 = some (r1, r2, r3, r4, r5)) ∧ Aside0 (kq ≤ k) ∧ Aside0 (wc.heap[gb160]? = some (.cells #[.string a0_0, .int .i64 a0_1, (.slice A0_2 l0_2.length c0_2)] 25 (0, 0))) ∧ Aside0 (wc.heap[gb161]? = some (.cells #[.string (⟨#[]⟩ : ByteArray), .int .i64 0, (.slice none 0 0), .int .i64 0, .int .i64 0] 29 (0, 0))) ∧ Aside0 (Below w.heap.size w wc))
 case first =>
  have H := HC27.out
  clear HC27
  by_cases c35 : a2.toList = ([] : List UInt8)
  ·
   rw [if_pos c35] at H
   have c35b0 : (a2.toList == ([] : List UInt8)) = true := beq_iff_eq.mpr c35
   have c35b1 : (a2.toList != ([] : List UInt8)) = false := bne_eq_false_iff_eq.mpr c35
   clear c35
   have H' := Aside0.mk H
   clear H
   go_wp2
   go_meet
   case rel => exact ⟨_, (true), (by rfl), H', ⟨by omega⟩, ⟨by exact BK160.out⟩, ⟨by exact BK161.out⟩, ⟨by repeat ((with_reducible (exact HB.out)))⟩⟩
  rw [if_neg c35] at H
  have c35b0 : (a2.toList == ([] : List UInt8)) = false := beq_eq_false_iff_ne.mpr c35
  have c35b1 : (a2.toList != ([] : List UInt8)) = true := bne_iff_ne.mpr c35
  have H' := Aside0.mk H
  clear H
  go_wp2
  go_meet
  case rel => exact ⟨_, (decide ((a2.size : Int) > 64)), (by rfl), H', ⟨by omega⟩, ⟨by exact BK160.out⟩, ⟨by exact BK161.out⟩, ⟨by repeat ((with_reducible (exact HB.out)))⟩⟩
 case rest =>
  clear HC27
  obtain ⟨kq, x24_26, rfl, HA, HJ26, BK160, BK161, HB⟩ := hcut
  cases kq with
  | zero => exact absurd HA.out (by simp [spec_DbResult.j0])
  | succ kj26 =>
   have H := HA.out
   clear HA
   simp only [spec_DbResult.j0] at H
   by_cases c36 : x24_26 = true
   ·
    subst c36
    rw [if_pos rfl] at H
    replace H := Option.bind_eq_some_iff.mp H
    obtain ⟨⟨t185, t186, t187, t190, t191⟩, A370, H⟩ := H
    (try dsimp -simprocs only at H)
    have A37 := Aside0.mk A370
    clear A370
    simp only [Option.some.injEq, Prod.mk.injEq] at H
    obtain ⟨rfl, rfl, rfl, rfl, rfl⟩ := H
    go_wp2_with (((with_reducible refine gate_callee (f := 29) rfl ?_); refine goesL_ (some 32) rfl rfl Tryd.func29 (by kernel_rfl) rfl #[.int .i64 1] rfl zb7_6 ?_; (with_reducible refine (spec_l06Ill.calls 1 t185 t186 t187 t190 t191 _ A37.out).mono ?_); rintro e w38 ⟨v188, rfl, ho0, hb⟩; refine ⟨_, rfl, ?_⟩; have HO189 := Aside0.mk (Kd.R_lower ho0 (below_size zb8_6)); replace BK161 := bkb BK161 hb; replace HB := Aside0.mk (below_step zb8_6 hb); (try clear hb); (try clear ho0); have hnb39 := NB161_160.out; have hnc39 := NB160_161.out; obtain ⟨z0, z1, z2, z3, z4, z5, z6, z7, z8, z9⟩ := bz5 BK161.out; obtain ⟨Ao41, co41, eo41⟩ := Kd.R_slice HO189.out; subst eo41))
    refine bodyPost_ret (results_cell_row rfl _ _ gb161 29 #[.string t185, .int .i64 t186, .slice Ao41 t187.length co41, .int .i64 t190, .int .i64 t191] (0, 0) _ rfl (by apply bp5; exact BK161.out) Tryd.underlying29 rfl (by kernel_rfl)) rfl ?_
    exact ⟨_, by rfl, by exact Kd.R_mono (rfa (rfa (rfa (rfa (rfa (Kd.R_types HO189.out BK161.out (by decide)) (fun _ h => h.2)) (fun _ h => h.2)) (fun _ h => h.2)) (fun _ h => h.2)) (fun _ h => h.2)) (fun _ hk => trivial), by repeat ((with_reducible first | exact HB.out | refine below_set ?_ GE161.out))⟩
   replace c36 := Bool.eq_false_iff.mpr c36
   subst c36
   rw [if_neg (show ¬ (false = true) by decide)] at H
   by_cases c42 : 0 ≤ t177
   rotate_left
   · rw [if_neg c42] at H; exact absurd H (by simp)
   rw [if_pos c42] at H
   have c42b0 := decide_eq_true c42
   clear c42
   by_cases c43 : t177 < (l0_2.length : Int)
   rotate_left
   · rw [if_neg c43] at H; exact absurd H (by simp)
   rw [if_pos c43] at H
   have c43b0 := decide_eq_true c43
   clear c43
   by_cases c44 : ((rd_T43 l0_2 t177).f2) = 0
   rotate_left
   ·
    rw [if_neg c44] at H
    have c44b0 : (((rd_T43 l0_2 t177).f2) == 0) = false := beq_eq_false_iff_ne.mpr c44
    have c44b1 : (((rd_T43 l0_2 t177).f2) != 0) = true := bne_iff_ne.mpr c44
    replace H := Option.bind_eq_some_iff.mp H
    obtain ⟨⟨t201, t202, t203, t206, t207⟩, A660, H⟩ := H
    (try dsimp -simprocs only at H)
    have A66 := Aside0.mk A660
    clear A660
    simp only [Option.some.injEq, Prod.mk.injEq] at H
    obtain ⟨rfl, rfl, rfl, rfl, rfl⟩ := H
    have hnb67 := NB160_161.out
    have hnc67 := NB161_160.out
    obtain ⟨z0, z1, z2, z3, z4, z5⟩ := bz3 BK160.out
    have p192 : 0 ≤ (t177 : Int) := of_decide_eq_true zb10_6
    have q192 : t177 < (l0_2.length : Int) := of_decide_eq_true zb10_6
    obtain ⟨ad192, e192, hx192_0, hx192_1, hx192_2, hx192_3⟩ := at_T43 HR0_2.out t177 p192 q192
    cases e192
    replace hx192_0 := (HB.out.cell (World.block_lt_of_cell? w _ hx192_0)).trans hx192_0
    replace hx192_1 := (HB.out.cell (World.block_lt_of_cell? w _ hx192_1)).trans hx192_1
    replace hx192_2 := (HB.out.cell (World.block_lt_of_cell? w _ hx192_2)).trans hx192_2
    replace hx192_3 := (HB.out.cell (World.block_lt_of_cell? w _ hx192_3)).trans hx192_3
    replace p192 := eq_true p192
    replace q192 := eq_true q192
    go_wp2_with (((with_reducible refine gate_callee (f := 29) rfl ?_); refine goesL_ (some 41) rfl rfl Tryd.func29 (by kernel_rfl) rfl #[.int .i64 10] rfl zb7_6 ?_; (with_reducible refine (spec_l06Ill.calls 10 t201 t202 t203 t206 t207 _ A66.out).mono ?_); rintro e w69 ⟨v204, rfl, ho0, hb⟩; refine ⟨_, rfl, ?_⟩; have HO205 := Aside0.mk (Kd.R_lower ho0 (below_size zb8_6)); replace BK161 := bkb BK161 hb; replace HB := Aside0.mk (below_step zb8_6 hb); (try clear hb); (try clear ho0); obtain ⟨z0, z1, z2, z3, z4, z5, z6, z7, z8, z9⟩ := bz5 BK161.out; obtain ⟨Ao71, co71, eo71⟩ := Kd.R_slice HO205.out; subst eo71))
    refine bodyPost_ret (results_cell_row rfl _ _ gb161 29 #[.string t201, .int .i64 t202, .slice Ao71 t203.length co71, .int .i64 t206, .int .i64 t207] (0, 0) _ rfl (by apply bp5; exact BK161.out) Tryd.underlying29 rfl (by kernel_rfl)) rfl ?_
    exact ⟨_, by rfl, by exact Kd.R_mono (rfa (rfa (rfa (rfa (rfa (Kd.R_types HO205.out BK161.out (by decide)) (fun _ h => h.2)) (fun _ h => h.2)) (fun _ h => h.2)) (fun _ h => h.2)) (fun _ h => h.2)) (fun _ hk => trivial), by repeat ((with_reducible first | exact HB.out | refine below_set ?_ GE161.out))⟩
   rw [if_pos c44] at H
   have c44b0 : (((rd_T43 l0_2 t177).f2) == 0) = true := beq_iff_eq.mpr c44
   have c44b1 : (((rd_T43 l0_2 t177).f2) != 0) = false := bne_eq_false_iff_eq.mpr c44
   clear c44
   replace H := Option.bind_eq_some_iff.mp H
   obtain ⟨⟨t193, t194, t195⟩, A450, H⟩ := H
   (try dsimp -simprocs only at H)
   have A45 := Aside0.mk A450
   clear A450
   by_cases c46 : t177 < (t195.length : Int)
   rotate_left
   · rw [if_neg c46] at H; exact absurd H (by simp)
   rw [if_pos c46] at H
   have c46b0 := decide_eq_true c46
   clear c46
   obtain ⟨y199, hy199⟩ : ∃ y_ : List (S43), y_ = (t195.set (t177 : Int).toNat (⟨(rd_T43 t195 t177).f0, (rd_T43 t195 t177).f1, 1, (rd_T43 t195 t177).f3⟩ : S43)) := ⟨_, rfl⟩
   replace H : (some (t193, t194, (y199.set (t177 : Int).toNat (⟨(rd_T43 y199 t177).f0, (rd_T43 y199 t177).f1, (rd_T43 y199 t177).f2, a2⟩ : S43)), 0, 0)) = some (r1, r2, r3, r4, r5) := by (have H2_ := (Option.bind_some _ _).symm.trans H; rw [hy199]; with_reducible exact H2_)
   have Ny199 := Aside0.mk hy199
   clear hy199
   obtain ⟨y200, hy200⟩ : ∃ y_ : List (S43), y_ = (y199.set (t177 : Int).toNat (⟨(rd_T43 y199 t177).f0, (rd_T43 y199 t177).f1, (rd_T43 y199 t177).f2, a2⟩ : S43)) := ⟨_, rfl⟩
   replace H : (some (t193, t194, y200, 0, 0)) = some (r1, r2, r3, r4, r5) := by (rw [hy200]; with_reducible exact H)
   have Ny200 := Aside0.mk hy200
   clear hy200
   simp only [Option.some.injEq, Prod.mk.injEq] at H
   obtain ⟨rfl, rfl, rfl, rfl, rfl⟩ := H
   have hnb49 := NB160_161.out
   have hnc49 := NB161_160.out
   obtain ⟨z0, z1, z2, z3, z4, z5⟩ := bz3 BK160.out
   have p192 : 0 ≤ (t177 : Int) := of_decide_eq_true zb10_6
   have q192 : t177 < (l0_2.length : Int) := of_decide_eq_true zb10_6
   obtain ⟨ad192, e192, hx192_0, hx192_1, hx192_2, hx192_3⟩ := at_T43 HR0_2.out t177 p192 q192
   cases e192
   replace hx192_0 := (HB.out.cell (World.block_lt_of_cell? w _ hx192_0)).trans hx192_0
   replace hx192_1 := (HB.out.cell (World.block_lt_of_cell? w _ hx192_1)).trans hx192_1
   replace hx192_2 := (HB.out.cell (World.block_lt_of_cell? w _ hx192_2)).trans hx192_2
   replace hx192_3 := (HB.out.cell (World.block_lt_of_cell? w _ hx192_3)).trans hx192_3
   replace p192 := eq_true p192
   replace q192 := eq_true q192
   go_wp2_with (first | ((with_reducible refine gate_callee (f := 31) rfl ?_); refine goesL_ (some 43) rfl rfl Tryd.func31 (by kernel_rfl) rfl #[.agg #[.string a0_0, .int .i64 a0_1, .slice (some ad192) l0_2.length c0_2]] rfl zb7_6 ?_; (with_reducible refine (spec_l06Copy.calls a0_0 a0_1 _ _ l0_2 t193 t194 t195 _ ?side1 ?side2 A45.out).mono ?_); (case side1 => repeat ((exact (Kd.C_below HR0_2.out HB.out)))); (case side2 => exact HC0_2.out); rintro e w51 ⟨v196, rfl, ho0, hb⟩; refine ⟨_, rfl, ?_⟩; have HO197 := Aside0.mk (Kd.R_lower ho0 (below_size zb8_6)); replace BK160 := bkb BK160 hb; replace BK161 := bkb BK161 hb; replace HB := Aside0.mk (below_step zb8_6 hb); (try clear hb); (try clear ho0)) | ((with_reducible refine gate_dst (N := 8) rfl ?_); (try (refine gate_guard (by rfl) ?_; dsimp only)); refine box_event ?hg (N := 8) ?hd (cs := #[.string (⟨#[]⟩ : ByteArray), .int .i64 0, .slice none 0 0]) (t := 25) ?hr ?_; (case hd => rfl); (case hg => rfl); (case hr => (go_simp; done)); intro gb198 hg w52 hbox hb; replace HO197 := Aside0.mk (Kd.R_below zb11_6 hb); have BK198 := Aside0.mk (hbox); have GW198 := Aside0.mk ((by rw [hg]; exact (below_size zb8_6) : w.heap.size ≤ gb198)); have GE198 := Aside0.mk ((by rw [hg]; exact (below_size zb8_6) : w.heap.size ≤ gb198)); replace HB := Aside0.mk (below_step zb8_6 hb); have NB160_198 := Aside0.mk ((by rw [hg]; exact Nat.ne_of_lt (blk_lt (g := gb160) (o := .cells #[.string a0_0, .int .i64 a0_1, .slice (some ad192) l0_2.length c0_2] 25 (0, 0)) zb2_6) : gb160 ≠ gb198)); have NB198_160 := Aside0.mk ((by rw [hg]; exact Nat.ne_of_gt (blk_lt (g := gb160) (o := .cells #[.string a0_0, .int .i64 a0_1, .slice (some ad192) l0_2.length c0_2] 25 (0, 0)) zb2_6) : gb198 ≠ gb160)); replace BK160 := bkb BK160 hb; have NB161_198 := Aside0.mk ((by rw [hg]; exact Nat.ne_of_lt (blk_lt (g := gb161) (o := .cells #[.string (⟨#[]⟩ : ByteArray), .int .i64 0, .slice none 0 0, .int .i64 0, .int .i64 0] 29 (0, 0)) zb9_6) : gb161 ≠ gb198)); have NB198_161 := Aside0.mk ((by rw [hg]; exact Nat.ne_of_gt (blk_lt (g := gb161) (o := .cells #[.string (⟨#[]⟩ : ByteArray), .int .i64 0, .slice none 0 0, .int .i64 0, .int .i64 0] 29 (0, 0)) zb9_6) : gb198 ≠ gb161)); replace BK161 := bkb BK161 hb; clear hb hbox hg; have hnb53 := NB198_160.out; have hnc53 := NB160_198.out; have hnb54 := NB198_161.out; have hnc54 := NB161_198.out; obtain ⟨z0, z1, z2, z3, z4, z5⟩ := bz3 BK198.out; obtain ⟨Ao56, co56, eo56⟩ := Kd.R_slice HO197.out; subst eo56) | ((with_reducible refine gate_store (t := 25) (p := 8) rfl ?_); refine store_event (t := 25) (p := 8) (v := ?vo_w57) (w1 := (((w52.setCell ⟨gb198, 0, none⟩ (.string t193)).setCell ⟨gb198, 1, none⟩ (.int .i64 t194)).setCell ⟨gb198, 2, none⟩ (.slice Ao56 t195.length co56))) ?hg ?ho ?hn ?hr ?_; (case ho => rfl); (case hg => rfl); (case hn => rfl); (case hr => (go_simp; done)); intro w57 hw; have n0_ : Aside0 (Kd.R k43 43 w57 w.heap.size (fun _ => True) (.slice Ao56 t195.length co56) t195) := ⟨(by rw [hw]; exact (by exact Kd.R_mono (rfa (rfa (rfa (Kd.R_types HO197.out BK198.out (by decide)) (fun _ h => h.2)) (fun _ h => h.2)) (fun _ h => h.2)) (fun _ hk => trivial)))⟩; have n1_ : Aside0 (w57.heap[gb160]? = some (.cells #[.string a0_0, .int .i64 a0_1, .slice (some ad192) l0_2.length c0_2] 25 (0, 0))) := ⟨(by rw [hw]; exact (by refine blk_far ?_ NB160_198.out _; refine blk_far ?_ NB160_198.out _; refine blk_far ?_ NB160_198.out _; exact BK160.out))⟩; have n2_ : Aside0 (w57.heap[gb161]? = some (.cells #[.string (⟨#[]⟩ : ByteArray), .int .i64 0, .slice none 0 0, .int .i64 0, .int .i64 0] 29 (0, 0))) := ⟨(by rw [hw]; exact (by refine blk_far ?_ NB161_198.out _; refine blk_far ?_ NB161_198.out _; refine blk_far ?_ NB161_198.out _; exact BK161.out))⟩; have n3_ : Aside0 (w57.heap[gb198]? = some (.cells #[.string t193, .int .i64 t194, .slice Ao56 t195.length co56] 25 (0, 0))) := ⟨(by rw [hw]; exact (by apply bp3; exact BK198.out))⟩; have n4_ : Aside0 (Below w.heap.size w w57) := ⟨(by rw [hw]; exact (by repeat ((with_reducible first | exact HB.out | refine below_set ?_ GE198.out))))⟩; clear hw; clear HO197; clear BK160; clear BK161; clear BK198; clear HB; have HO197 := n0_; have BK160 := n1_; have BK161 := n2_; have BK198 := n3_; have HB := n4_; clear n0_ n1_ n2_ n3_ n4_; obtain ⟨z0, z1, z2, z3, z4, z5⟩ := bz3 BK198.out; have p47 : 0 ≤ (t177 : Int) := of_decide_eq_true zb10_6; have q47 : (t177 : Int) < ((t195.length : Int) : Int) := of_decide_eq_true zb10_6; obtain ⟨go47, co47, eo47, gb47, gl47, cl47, HG47⟩ := Kd.R_form HO197.out (by omega); ((cases eo47)); have GB47 := Aside0.mk gb47; have GG47 := Aside0.mk HG47; clear gb47 gl47 HG47; obtain ⟨ce47, hcl47, hM47, hcc47, hfr47⟩ := Kd.R_elem HO197.out z43 (t177 : Int) p47 q47; obtain rfl := k43_openM hM47; have hx47_0 : w57.cell? ⟨go47, (t177 : Int).toNat * 4, none⟩ = some (.string ((rd_T43 t195 t177).f0)) := hcc47 0 _ rfl; have hx47_1 : w57.cell? ⟨go47, (t177 : Int).toNat * 4 + 1, none⟩ = some (.int .i64 ((rd_T43 t195 t177).f1)) := hcc47 1 _ rfl; have hx47_2 : w57.cell? ⟨go47, (t177 : Int).toNat * 4 + 2, none⟩ = some (.int .i64 ((rd_T43 t195 t177).f2)) := hcc47 2 _ rfl; have hx47_3 : w57.cell? ⟨go47, (t177 : Int).toNat * 4 + 3, none⟩ = some (.string ((rd_T43 t195 t177).f3)) := hcc47 3 _ rfl; have hf47_0 : w57.frozen? ⟨go47, (t177 : Int).toNat * 4, none⟩ = false := hfr47 0; have hf47_1 : w57.frozen? ⟨go47, (t177 : Int).toNat * 4 + 1, none⟩ = false := hfr47 1; have hf47_2 : w57.frozen? ⟨go47, (t177 : Int).toNat * 4 + 2, none⟩ = false := hfr47 2; have hf47_3 : w57.frozen? ⟨go47, (t177 : Int).toNat * 4 + 3, none⟩ = false := hfr47 3; clear hcl47 hcc47 hfr47 hM47; replace p47 := eq_true p47; replace q47 := eq_true q47; have HX59 := Aside0.mk (show Kd.R k43 43 w57 w.heap.size (fun _ => True) (.slice (some ⟨go47, 0, none⟩) t195.length co56) t195 from zb11_6); obtain ⟨ce59, hcl59, hM59, hcc59, hfr59⟩ := Kd.R_elem HX59.out z43 (t177 : Int) (of_decide_eq_true zb10_6) (by have h_ : (t177 : Int) < ((t195.length : Int) : Int) := of_decide_eq_true zb10_6; (exact h_)); obtain rfl := k43_openM hM59; have HP59 := Kd.R_seg HX59.out (t177 : Int) (of_decide_eq_true zb10_6) (by have h_ : (t177 : Int) < ((t195.length : Int) : Int) := of_decide_eq_true zb10_6; (exact h_)) (seg := [.int .i64 1]) (j := 2) hcl59 hcc59 (show 3 ≤ 4 from by decide) (x' := (⟨(rd_T43 t195 t177).f0, (rd_T43 t195 t177).f1, 1, (rd_T43 t195 t177).f3⟩ : S43)) (k43_mkM _ _ _ (⟨(rd_T43 t195 t177).f0, (rd_T43 t195 t177).f1, 1, (rd_T43 t195 t177).f3⟩ : S43) ) (fun _ hk => hk); have hx59_2 := hcc59 2 _ rfl; (try simp only [show (k43).sz = 4 from rfl, Nat.mul_one, Nat.add_zero] at hx59_2); have hf59_2 := hfr59 2; (try simp only [show (k43).sz = 4 from rfl, Nat.mul_one, Nat.add_zero] at hf59_2); clear hcl59 hcc59 hfr59 hM59) | ((with_reducible refine gate_store (t := 2) (p := 48) rfl ?_); refine store_event (t := 2) (p := 48) (v := ?vo_w60) (w1 := (w57.setCell ⟨go47, (t177 : Int).toNat * 4 + 2, none⟩ (.int .i64 1))) ?hg ?ho ?hn ?hr ?_; (case ho => rfl); (case hg => rfl); (case hn => rfl); (case hr => (go_simp; done)); intro w60 hw; have hg : w57.grownBy w60 (some go47) := (by rw [hw]; exact HP59.2); have hp_ : Kd.R k43 43 w60 w.heap.size (fun _ => True) (.slice (some ⟨go47, 0, none⟩) t195.length co56) y199 := (by rw [hw, Ny199.out]; exact HP59.1); clear HP59; replace BK160 := Aside0.mk (blk_grown (g := gb160) (o := .cells #[.string a0_0, .int .i64 a0_1, .slice (some ad192) l0_2.length c0_2] 25 (0, 0)) zb2_6 hg (Kd.R_ne HO197.out BK160.out (by decide))); replace BK161 := Aside0.mk (blk_grown (g := gb161) (o := .cells #[.string (⟨#[]⟩ : ByteArray), .int .i64 0, .slice none 0 0, .int .i64 0, .int .i64 0] 29 (0, 0)) zb9_6 hg (Kd.R_ne HO197.out BK161.out (by decide))); replace BK198 := Aside0.mk (blk_grown (g := gb198) (o := .cells #[.string t193, .int .i64 t194, .slice (some ⟨go47, 0, none⟩) t195.length co56] 25 (0, 0)) (by exact BK198.out) hg (Kd.R_ne HO197.out BK198.out (by decide))); replace HO197 := Aside0.mk (hp_); replace HB := Aside0.mk ((by rw [hw]; exact below_set (HB.out) GB47.out : Below w.heap.size w w60)); clear hg hw hp_; obtain ⟨z0, z1, z2, z3, z4, z5⟩ := bz3 BK198.out; have p48 : 0 ≤ (t177 : Int) := of_decide_eq_true zb10_6; have q48 : (t177 : Int) < ((t195.length : Int) : Int) := of_decide_eq_true zb10_6; obtain ⟨ce48, hcl48, hM48, hcc48, hfr48⟩ := Kd.R_elem HO197.out z43 (t177 : Int) p48 q48; obtain rfl := k43_openM hM48; have hx48_0 : w60.cell? ⟨go47, (t177 : Int).toNat * 4, none⟩ = some (.string ((rd_T43 y199 t177).f0)) := hcc48 0 _ rfl; have hx48_1 : w60.cell? ⟨go47, (t177 : Int).toNat * 4 + 1, none⟩ = some (.int .i64 ((rd_T43 y199 t177).f1)) := hcc48 1 _ rfl; have hx48_2 : w60.cell? ⟨go47, (t177 : Int).toNat * 4 + 2, none⟩ = some (.int .i64 ((rd_T43 y199 t177).f2)) := hcc48 2 _ rfl; have hx48_3 : w60.cell? ⟨go47, (t177 : Int).toNat * 4 + 3, none⟩ = some (.string ((rd_T43 y199 t177).f3)) := hcc48 3 _ rfl; have hf48_0 : w60.frozen? ⟨go47, (t177 : Int).toNat * 4, none⟩ = false := hfr48 0; have hf48_1 : w60.frozen? ⟨go47, (t177 : Int).toNat * 4 + 1, none⟩ = false := hfr48 1; have hf48_2 : w60.frozen? ⟨go47, (t177 : Int).toNat * 4 + 2, none⟩ = false := hfr48 2; have hf48_3 : w60.frozen? ⟨go47, (t177 : Int).toNat * 4 + 3, none⟩ = false := hfr48 3; clear hcl48 hcc48 hfr48 hM48; replace p48 := eq_true p48; replace q48 := eq_true q48; have HX62 := Aside0.mk (show Kd.R k43 43 w60 w.heap.size (fun _ => True) (.slice (some ⟨go47, 0, none⟩) t195.length co56) y199 from zb11_6); obtain ⟨ce62, hcl62, hM62, hcc62, hfr62⟩ := Kd.R_elem HX62.out z43 (t177 : Int) (of_decide_eq_true zb10_6) (by have h_ : (t177 : Int) < ((t195.length : Int) : Int) := of_decide_eq_true zb10_6; (exact h_)); obtain rfl := k43_openM hM62; have HP62 := Kd.R_seg HX62.out (t177 : Int) (of_decide_eq_true zb10_6) (by have h_ : (t177 : Int) < ((t195.length : Int) : Int) := of_decide_eq_true zb10_6; (exact h_)) (seg := [.string a2]) (j := 3) hcl62 hcc62 (show 4 ≤ 4 from by decide) (x' := (⟨(rd_T43 y199 t177).f0, (rd_T43 y199 t177).f1, (rd_T43 y199 t177).f2, a2⟩ : S43)) (k43_mkM _ _ _ (⟨(rd_T43 y199 t177).f0, (rd_T43 y199 t177).f1, (rd_T43 y199 t177).f2, a2⟩ : S43) ) (fun _ hk => hk); have hx62_3 := hcc62 3 _ rfl; (try simp only [show (k43).sz = 4 from rfl, Nat.mul_one, Nat.add_zero] at hx62_3); have hf62_3 := hfr62 3; (try simp only [show (k43).sz = 4 from rfl, Nat.mul_one, Nat.add_zero] at hf62_3); clear hcl62 hcc62 hfr62 hM62) | ((with_reducible refine gate_store (t := 9) (p := 54) rfl ?_); refine store_event (t := 9) (p := 54) (v := ?vo_w63) (w1 := (w60.setCell ⟨go47, (t177 : Int).toNat * 4 + 3, none⟩ (.string a2))) ?hg ?ho ?hn ?hr ?_; (case ho => rfl); (case hg => rfl); (case hn => rfl); (case hr => (go_simp; done)); intro w63 hw; have hg : w60.grownBy w63 (some go47) := (by rw [hw]; exact HP62.2); have hp_ : Kd.R k43 43 w63 w.heap.size (fun _ => True) (.slice (some ⟨go47, 0, none⟩) t195.length co56) y200 := (by rw [hw, Ny200.out]; exact HP62.1); clear HP62; replace BK160 := Aside0.mk (blk_grown (g := gb160) (o := .cells #[.string a0_0, .int .i64 a0_1, .slice (some ad192) l0_2.length c0_2] 25 (0, 0)) zb2_6 hg (Kd.R_ne HO197.out BK160.out (by decide))); replace BK161 := Aside0.mk (blk_grown (g := gb161) (o := .cells #[.string (⟨#[]⟩ : ByteArray), .int .i64 0, .slice none 0 0, .int .i64 0, .int .i64 0] 29 (0, 0)) zb9_6 hg (Kd.R_ne HO197.out BK161.out (by decide))); replace BK198 := Aside0.mk (blk_grown (g := gb198) (o := .cells #[.string t193, .int .i64 t194, .slice (some ⟨go47, 0, none⟩) t195.length co56] 25 (0, 0)) (by exact BK198.out) hg (Kd.R_ne HO197.out BK198.out (by decide))); replace HO197 := Aside0.mk (hp_); replace HB := Aside0.mk ((by rw [hw]; exact below_set (HB.out) GB47.out : Below w.heap.size w w63)); clear hg hw hp_; obtain ⟨z0, z1, z2, z3, z4, z5⟩ := bz3 BK198.out; obtain ⟨z0, z1, z2, z3, z4, z5, z6, z7, z8, z9⟩ := bz5 BK161.out))
   refine bodyPost_ret (results_cell_row rfl _ _ gb161 29 #[.string t193, .int .i64 t194, .slice (some ⟨go47, 0, none⟩) t195.length co56, .int .i64 0, .int .i64 0] (0, 0) _ rfl (by apply bp5; exact BK161.out) Tryd.underlying29 rfl (by kernel_rfl)) rfl ?_
   exact ⟨_, by rfl, by exact Kd.R_mono (rfa (rfa (rfa (rfa (rfa (Kd.R_types HO197.out BK161.out (by decide)) (fun _ h => h.2)) (fun _ h => h.2)) (fun _ h => h.2)) (fun _ h => h.2)) (fun _ h => h.2)) (fun _ hk => trivial), by repeat ((with_reducible first | exact HB.out | refine below_set ?_ GE161.out))⟩
/-! ### spec_DbVerified: function 13 -/
def spec_DbVerified.f (k : Nat) (a0_0 : ByteArray) (a0_1 : Int) (l0_2 : List (S43)) (a1 : Int) (a2 : Bool) : Option (ByteArray × Int × (List (S43)) × Int × Int) := (spec_DialbackRight.f k a0_0 a0_1 l0_2).bind fun t210 => (if t210 = true then ((spec_l06Peer.f k a0_0 a0_1 l0_2 a1).bind fun t218 => (if t218 < 0 then ((spec_l06Ill.f 6).bind fun bt219 => (some (bt219.1, bt219.2.1, bt219.2.2.1, bt219.2.2.2.1, bt219.2.2.2.2))) else (if 0 ≤ t218 then (if t218 < (l0_2.length : Int) then (if ((rd_T43 l0_2 t218).f2) = 1 then ((spec_l06Copy.f a0_0 a0_1 l0_2).bind fun bt227 => (if t218 < (bt227.2.2.length : Int) then ((some (bt227.2.2.set (t218 : Int).toNat (⟨(rd_T43 bt227.2.2 t218).f0, (rd_T43 bt227.2.2 t218).f1, 3, (rd_T43 bt227.2.2 t218).f3⟩ : S43) : List (S43))).bind fun y233 => (if a2 = true then (some (bt227.1, bt227.2.1, (y233.set (t218 : Int).toNat (⟨(rd_T43 y233 t218).f0, (rd_T43 y233 t218).f1, 2, (rd_T43 y233 t218).f3⟩ : S43)), 0, 0)) else (some (bt227.1, bt227.2.1, y233, 0, 0)))) else (none))) else ((spec_l06Ill.f 10).bind fun bt235 => (some (bt235.1, bt235.2.1, bt235.2.2.1, bt235.2.2.2.1, bt235.2.2.2.2)))) else (none)) else (none)))) else ((spec_l06Ill.f 1).bind fun bt211 => (some (bt211.1, bt211.2.1, bt211.2.2.1, bt211.2.2.2.1, bt211.2.2.2.2))))
theorem spec_DbVerified.mono : ∀ a0 a1 a2 a3 a4 k, LeO (spec_DbVerified.f k a0 a1 a2 a3 a4) (spec_DbVerified.f (k + 1) a0 a1 a2 a3 a4) := by
 intro a0 a1 a2 a3 a4 k
 unfold spec_DbVerified.f
 repeat' first
   | (with_reducible exact spec_DialbackRight.mono _ _ _ _)
   | (with_reducible exact spec_l06Peer.mono _ _ _ _ _)
   | (with_reducible exact LeO.refl _)
   | (with_reducible exact LeO.none _)
   | (with_reducible refine LeO.ite ?_ ?_)
   | (with_reducible refine LeO.bind ?_ (fun _ => ?_))
   | exact spec_DialbackRight.mono _ _ _ _
   | exact spec_l06Peer.mono _ _ _ _ _
   | exact LeO.none _
   | refine LeO.ite ?_ ?_
   | refine LeO.bind ?_ (fun _ => ?_)
set_option maxHeartbeats 8000000 in
set_option maxRecDepth 100000 in
theorem spec_DbVerified.calls (k : Nat) (a0_0 : ByteArray) (a0_1 : Int) (A0_2 : Option Addr) (c0_2 : Nat) (l0_2 : List (S43)) (a1 : Int) (a2 : Bool) (r1 : ByteArray) (r2 : Int) (r3 : List (S43)) (r4 : Int) (r5 : Int) (w : World) (hr0_2 : Kd.C k43 w A0_2 l0_2.length l0_2) (hc0_2 : l0_2.length ≤ c0_2) (h : spec_DbVerified.f k a0_0 a0_1 l0_2 a1 a2 = some (r1, r2, r3, r4, r5)) :
  Calls Tryd.prog 13 #[.agg #[.string a0_0, .int .i64 a0_1, .slice A0_2 l0_2.length c0_2], .int .i64 a1, .bool a2] w fun e w' => ∃ v2_ : Value, e = .returned (.agg #[.string r1, .int .i64 r2, v2_, .int .i64 r4, .int .i64 r5]) ∧ Kd.R k43 43 w' w.heap.size (fun _ => True) v2_ r3 ∧ Below w.heap.size w w' := by
 have hu25 := Tryd.underlying25
 have hu29 := Tryd.underlying29
 have HR0_2 := Aside0.mk hr0_2
 have HC0_2 := Aside0.mk hc0_2
 clear hr0_2 hc0_2
 have HB := Aside0.mk (Below.refl w.heap.size w)
 have H : ((spec_DialbackRight.f k a0_0 a0_1 l0_2).bind fun t210 => (if t210 = true then ((spec_l06Peer.f k a0_0 a0_1 l0_2 a1).bind fun t218 => (if t218 < 0 then ((spec_l06Ill.f 6).bind fun bt219 => (some (bt219.1, bt219.2.1, bt219.2.2.1, bt219.2.2.2.1, bt219.2.2.2.2))) else (if 0 ≤ t218 then (if t218 < (l0_2.length : Int) then (if ((rd_T43 l0_2 t218).f2) = 1 then ((spec_l06Copy.f a0_0 a0_1 l0_2).bind fun bt227 => (if t218 < (bt227.2.2.length : Int) then ((some (bt227.2.2.set (t218 : Int).toNat (⟨(rd_T43 bt227.2.2 t218).f0, (rd_T43 bt227.2.2 t218).f1, 3, (rd_T43 bt227.2.2 t218).f3⟩ : S43) : List (S43))).bind fun y233 => (if a2 = true then (some (bt227.1, bt227.2.1, (y233.set (t218 : Int).toNat (⟨(rd_T43 y233 t218).f0, (rd_T43 y233 t218).f1, 2, (rd_T43 y233 t218).f3⟩ : S43)), 0, 0)) else (some (bt227.1, bt227.2.1, y233, 0, 0)))) else (none))) else ((spec_l06Ill.f 10).bind fun bt235 => (some (bt235.1, bt235.2.1, bt235.2.2.1, bt235.2.2.2.1, bt235.2.2.2.2)))) else (none)) else (none)))) else ((spec_l06Ill.f 1).bind fun bt211 => (some (bt211.1, bt211.2.1, bt211.2.2.1, bt211.2.2.2.1, bt211.2.2.2.2))))) = some (r1, r2, r3, r4, r5) := h
 clear h
 replace H := Option.bind_eq_some_iff.mp H
 obtain ⟨t210, A40, H⟩ := H
 (try dsimp -simprocs only at H)
 have A4 := Aside0.mk A40
 clear A40
 by_cases c5 : t210 = true
 rotate_left
 ·
  replace c5 := Bool.eq_false_iff.mpr c5
  subst c5
  rw [if_neg (show ¬ (false = true) by decide)] at H
  replace H := Option.bind_eq_some_iff.mp H
  obtain ⟨⟨t211, t212, t213, t216, t217⟩, A820, H⟩ := H
  (try dsimp -simprocs only at H)
  have A82 := Aside0.mk A820
  clear A820
  simp only [Option.some.injEq, Prod.mk.injEq] at H
  obtain ⟨rfl, rfl, rfl, rfl, rfl⟩ := H
  go_enter Tryd.func13, Tryd.ntmps13
  go_wp2_with (first | ((with_reducible refine gate_dst (N := 3) rfl ?_); refine box_event ?hg (N := 3) ?hd (cs := #[.string a0_0, .int .i64 a0_1, .slice A0_2 l0_2.length c0_2]) (t := 25) ?hr ?_; (case hd => rfl); (case hg => rfl); (case hr => (go_simp; done)); intro gb208 hg w83 hbox hb; have BK208 := Aside0.mk (hbox); have GW208 := Aside0.mk ((zb1_6 : w.heap.size ≤ gb208)); have GE208 := GW208; replace HB := Aside0.mk (below_step zb0_6 hb); clear hb hbox hg) | ((with_reducible refine gate_dst (N := 6) rfl ?_); refine box_event ?hg (N := 6) ?hd (cs := #[.string (⟨#[]⟩ : ByteArray), .int .i64 0, .slice none 0 0, .int .i64 0, .int .i64 0]) (t := 29) ?hr ?_; (case hd => rfl); (case hg => rfl); (case hr => (go_simp; done)); intro gb209 hg w84 hbox hb; have BK209 := Aside0.mk (hbox); have GW209 := Aside0.mk ((zb14_6 : w.heap.size ≤ gb209)); have GE209 := GW209; replace HB := Aside0.mk (below_step zb13_6 hb); have NB208_209 := Aside0.mk ((zb15_6 : gb208 ≠ gb209)); have NB209_208 := Aside0.mk ((zb16_6 : gb209 ≠ gb208)); replace BK208 := bkb BK208 hb; clear hb hbox hg; have hnb85 := NB208_209.out; have hnc85 := NB209_208.out; obtain ⟨z0, z1, z2, z3, z4, z5⟩ := bz3 BK208.out) | ((with_reducible refine gate_callee (f := 15) rfl ?_); refine goesL_ (some 10) rfl rfl Tryd.func15 (by kernel_rfl) rfl #[.agg #[.string a0_0, .int .i64 a0_1, .slice A0_2 l0_2.length c0_2]] rfl zb7_6 ?_; (with_reducible refine (spec_DialbackRight.calls k a0_0 a0_1 _ _ l0_2 false _ ?side1 ?side2 A4.out).mono ?_); (case side1 => repeat ((exact (Kd.C_below HR0_2.out HB.out)))); (case side2 => exact HC0_2.out); rintro e w87 ⟨rfl, hb⟩; refine ⟨_, rfl, ?_⟩; replace BK208 := bkb BK208 hb; replace BK209 := bkb BK209 hb; replace HB := Aside0.mk (below_step zb18_6 hb); (try clear hb)) | ((with_reducible refine gate_callee (f := 29) rfl ?_); refine goesL_ (some 12) rfl rfl Tryd.func29 (by kernel_rfl) rfl #[.int .i64 1] rfl zb7_6 ?_; (with_reducible refine (spec_l06Ill.calls 1 t211 t212 t213 t216 t217 _ A82.out).mono ?_); rintro e w88 ⟨v214, rfl, ho0, hb⟩; refine ⟨_, rfl, ?_⟩; have HO215 := Aside0.mk (Kd.R_lower ho0 (below_size zb18_6)); replace BK208 := bkb BK208 hb; replace BK209 := bkb BK209 hb; replace HB := Aside0.mk (below_step zb18_6 hb); (try clear hb); (try clear ho0); obtain ⟨z0, z1, z2, z3, z4, z5, z6, z7, z8, z9⟩ := bz5 BK209.out; obtain ⟨Ao90, co90, eo90⟩ := Kd.R_slice HO215.out; subst eo90))
  refine bodyPost_ret (results_cell_row rfl _ _ gb209 29 #[.string t211, .int .i64 t212, .slice Ao90 t213.length co90, .int .i64 t216, .int .i64 t217] (0, 0) _ rfl (by apply bp5; exact BK209.out) Tryd.underlying29 rfl (by kernel_rfl)) rfl ?_
  exact ⟨_, by rfl, by exact Kd.R_mono (rfa (rfa (rfa (rfa (rfa (Kd.R_types HO215.out BK209.out (by decide)) (fun _ h => h.2)) (fun _ h => h.2)) (fun _ h => h.2)) (fun _ h => h.2)) (fun _ h => h.2)) (fun _ hk => trivial), by repeat ((with_reducible first | exact HB.out | refine below_set ?_ GE209.out))⟩
 subst c5
 rw [if_pos rfl] at H
 replace H := Option.bind_eq_some_iff.mp H
 obtain ⟨t218, A60, H⟩ := H
 (try dsimp -simprocs only at H)
 have A6 := Aside0.mk A60
 clear A60
 by_cases c7 : t218 < 0
 ·
  rw [if_pos c7] at H
  have c7b0 := decide_eq_true c7
  clear c7
  replace H := Option.bind_eq_some_iff.mp H
  obtain ⟨⟨t219, t220, t221, t224, t225⟩, A80, H⟩ := H
  (try dsimp -simprocs only at H)
  have A8 := Aside0.mk A80
  clear A80
  simp only [Option.some.injEq, Prod.mk.injEq] at H
  obtain ⟨rfl, rfl, rfl, rfl, rfl⟩ := H
  go_enter Tryd.func13, Tryd.ntmps13
  go_wp2_with (first | ((with_reducible refine gate_dst (N := 3) rfl ?_); refine box_event ?hg (N := 3) ?hd (cs := #[.string a0_0, .int .i64 a0_1, .slice A0_2 l0_2.length c0_2]) (t := 25) ?hr ?_; (case hd => rfl); (case hg => rfl); (case hr => (go_simp; done)); intro gb208 hg w9 hbox hb; have BK208 := Aside0.mk (hbox); have GW208 := Aside0.mk ((zb1_6 : w.heap.size ≤ gb208)); have GE208 := GW208; replace HB := Aside0.mk (below_step zb0_6 hb); clear hb hbox hg) | ((with_reducible refine gate_dst (N := 6) rfl ?_); refine box_event ?hg (N := 6) ?hd (cs := #[.string (⟨#[]⟩ : ByteArray), .int .i64 0, .slice none 0 0, .int .i64 0, .int .i64 0]) (t := 29) ?hr ?_; (case hd => rfl); (case hg => rfl); (case hr => (go_simp; done)); intro gb209 hg w10 hbox hb; have BK209 := Aside0.mk (hbox); have GW209 := Aside0.mk ((zb14_6 : w.heap.size ≤ gb209)); have GE209 := GW209; replace HB := Aside0.mk (below_step zb13_6 hb); have NB208_209 := Aside0.mk ((zb15_6 : gb208 ≠ gb209)); have NB209_208 := Aside0.mk ((zb16_6 : gb209 ≠ gb208)); replace BK208 := bkb BK208 hb; clear hb hbox hg; have hnb11 := NB208_209.out; have hnc11 := NB209_208.out; obtain ⟨z0, z1, z2, z3, z4, z5⟩ := bz3 BK208.out) | ((with_reducible refine gate_callee (f := 15) rfl ?_); refine goesL_ (some 10) rfl rfl Tryd.func15 (by kernel_rfl) rfl #[.agg #[.string a0_0, .int .i64 a0_1, .slice A0_2 l0_2.length c0_2]] rfl zb7_6 ?_; (with_reducible refine (spec_DialbackRight.calls k a0_0 a0_1 _ _ l0_2 true _ ?side1 ?side2 A4.out).mono ?_); (case side1 => repeat ((exact (Kd.C_below HR0_2.out HB.out)))); (case side2 => exact HC0_2.out); rintro e w13 ⟨rfl, hb⟩; refine ⟨_, rfl, ?_⟩; replace BK208 := bkb BK208 hb; replace BK209 := bkb BK209 hb; replace HB := Aside0.mk (below_step zb18_6 hb); (try clear hb); obtain ⟨z0, z1, z2, z3, z4, z5⟩ := bz3 BK208.out) | ((with_reducible refine gate_callee (f := 32) rfl ?_); refine goesL_ (some 15) rfl rfl Tryd.func32 (by kernel_rfl) rfl #[.agg #[.string a0_0, .int .i64 a0_1, .slice A0_2 l0_2.length c0_2], .int .i64 a1] rfl zb7_6 ?_; (with_reducible refine (spec_l06Peer.calls k a0_0 a0_1 _ _ l0_2 a1 t218 _ ?side1 ?side2 A6.out).mono ?_); (case side1 => repeat ((exact (Kd.C_below HR0_2.out HB.out)))); (case side2 => exact HC0_2.out); rintro e w15 ⟨rfl, hb⟩; refine ⟨_, rfl, ?_⟩; replace BK208 := bkb BK208 hb; replace BK209 := bkb BK209 hb; replace HB := Aside0.mk (below_step zb18_6 hb); (try clear hb)) | ((with_reducible refine gate_callee (f := 29) rfl ?_); refine goesL_ (some 19) rfl rfl Tryd.func29 (by kernel_rfl) rfl #[.int .i64 6] rfl zb7_6 ?_; (with_reducible refine (spec_l06Ill.calls 6 t219 t220 t221 t224 t225 _ A8.out).mono ?_); rintro e w16 ⟨v222, rfl, ho0, hb⟩; refine ⟨_, rfl, ?_⟩; have HO223 := Aside0.mk (Kd.R_lower ho0 (below_size zb18_6)); replace BK208 := bkb BK208 hb; replace BK209 := bkb BK209 hb; replace HB := Aside0.mk (below_step zb18_6 hb); (try clear hb); (try clear ho0); obtain ⟨z0, z1, z2, z3, z4, z5, z6, z7, z8, z9⟩ := bz5 BK209.out; obtain ⟨Ao18, co18, eo18⟩ := Kd.R_slice HO223.out; subst eo18))
  refine bodyPost_ret (results_cell_row rfl _ _ gb209 29 #[.string t219, .int .i64 t220, .slice Ao18 t221.length co18, .int .i64 t224, .int .i64 t225] (0, 0) _ rfl (by apply bp5; exact BK209.out) Tryd.underlying29 rfl (by kernel_rfl)) rfl ?_
  exact ⟨_, by rfl, by exact Kd.R_mono (rfa (rfa (rfa (rfa (rfa (Kd.R_types HO223.out BK209.out (by decide)) (fun _ h => h.2)) (fun _ h => h.2)) (fun _ h => h.2)) (fun _ h => h.2)) (fun _ h => h.2)) (fun _ hk => trivial), by repeat ((with_reducible first | exact HB.out | refine below_set ?_ GE209.out))⟩
 rw [if_neg c7] at H
 have c7b0 := decide_eq_false c7
 clear c7
 by_cases c19 : 0 ≤ t218
 rotate_left
 · rw [if_neg c19] at H; exact absurd H (by simp)
 rw [if_pos c19] at H
 have c19b0 := decide_eq_true c19
 clear c19
 by_cases c20 : t218 < (l0_2.length : Int)
 rotate_left
 · rw [if_neg c20] at H; exact absurd H (by simp)
 rw [if_pos c20] at H
 have c20b0 := decide_eq_true c20
 clear c20
 by_cases c21 : ((rd_T43 l0_2 t218).f2) = 1
 rotate_left
 ·
  rw [if_neg c21] at H
  have c21b0 : (((rd_T43 l0_2 t218).f2) == 1) = false := beq_eq_false_iff_ne.mpr c21
  have c21b1 : (((rd_T43 l0_2 t218).f2) != 1) = true := bne_iff_ne.mpr c21
  replace H := Option.bind_eq_some_iff.mp H
  obtain ⟨⟨t235, t236, t237, t240, t241⟩, A700, H⟩ := H
  (try dsimp -simprocs only at H)
  have A70 := Aside0.mk A700
  clear A700
  simp only [Option.some.injEq, Prod.mk.injEq] at H
  obtain ⟨rfl, rfl, rfl, rfl, rfl⟩ := H
  go_enter Tryd.func13, Tryd.ntmps13
  go_wp2_with (first | ((with_reducible refine gate_dst (N := 3) rfl ?_); refine box_event ?hg (N := 3) ?hd (cs := #[.string a0_0, .int .i64 a0_1, .slice A0_2 l0_2.length c0_2]) (t := 25) ?hr ?_; (case hd => rfl); (case hg => rfl); (case hr => (go_simp; done)); intro gb208 hg w71 hbox hb; have BK208 := Aside0.mk (hbox); have GW208 := Aside0.mk ((zb1_6 : w.heap.size ≤ gb208)); have GE208 := GW208; replace HB := Aside0.mk (below_step zb0_6 hb); clear hb hbox hg) | ((with_reducible refine gate_dst (N := 6) rfl ?_); refine box_event ?hg (N := 6) ?hd (cs := #[.string (⟨#[]⟩ : ByteArray), .int .i64 0, .slice none 0 0, .int .i64 0, .int .i64 0]) (t := 29) ?hr ?_; (case hd => rfl); (case hg => rfl); (case hr => (go_simp; done)); intro gb209 hg w72 hbox hb; have BK209 := Aside0.mk (hbox); have GW209 := Aside0.mk ((zb14_6 : w.heap.size ≤ gb209)); have GE209 := GW209; replace HB := Aside0.mk (below_step zb13_6 hb); have NB208_209 := Aside0.mk ((zb15_6 : gb208 ≠ gb209)); have NB209_208 := Aside0.mk ((zb16_6 : gb209 ≠ gb208)); replace BK208 := bkb BK208 hb; clear hb hbox hg; have hnb73 := NB208_209.out; have hnc73 := NB209_208.out; obtain ⟨z0, z1, z2, z3, z4, z5⟩ := bz3 BK208.out) | ((with_reducible refine gate_callee (f := 15) rfl ?_); refine goesL_ (some 10) rfl rfl Tryd.func15 (by kernel_rfl) rfl #[.agg #[.string a0_0, .int .i64 a0_1, .slice A0_2 l0_2.length c0_2]] rfl zb7_6 ?_; (with_reducible refine (spec_DialbackRight.calls k a0_0 a0_1 _ _ l0_2 true _ ?side1 ?side2 A4.out).mono ?_); (case side1 => repeat ((exact (Kd.C_below HR0_2.out HB.out)))); (case side2 => exact HC0_2.out); rintro e w75 ⟨rfl, hb⟩; refine ⟨_, rfl, ?_⟩; replace BK208 := bkb BK208 hb; replace BK209 := bkb BK209 hb; replace HB := Aside0.mk (below_step zb18_6 hb); (try clear hb); obtain ⟨z0, z1, z2, z3, z4, z5⟩ := bz3 BK208.out) | ((with_reducible refine gate_callee (f := 32) rfl ?_); refine goesL_ (some 15) rfl rfl Tryd.func32 (by kernel_rfl) rfl #[.agg #[.string a0_0, .int .i64 a0_1, .slice A0_2 l0_2.length c0_2], .int .i64 a1] rfl zb7_6 ?_; (with_reducible refine (spec_l06Peer.calls k a0_0 a0_1 _ _ l0_2 a1 t218 _ ?side1 ?side2 A6.out).mono ?_); (case side1 => repeat ((exact (Kd.C_below HR0_2.out HB.out)))); (case side2 => exact HC0_2.out); rintro e w77 ⟨rfl, hb⟩; refine ⟨_, rfl, ?_⟩; replace BK208 := bkb BK208 hb; replace BK209 := bkb BK209 hb; replace HB := Aside0.mk (below_step zb18_6 hb); (try clear hb); obtain ⟨z0, z1, z2, z3, z4, z5⟩ := bz3 BK208.out; have p226 : 0 ≤ (t218 : Int) := of_decide_eq_true zb10_6; have q226 : t218 < (l0_2.length : Int) := of_decide_eq_true zb10_6; obtain ⟨ad226, e226, hx226_0, hx226_1, hx226_2, hx226_3⟩ := at_T43 HR0_2.out t218 p226 q226; cases e226; replace hx226_0 := (HB.out.cell (World.block_lt_of_cell? w _ hx226_0)).trans hx226_0; replace hx226_1 := (HB.out.cell (World.block_lt_of_cell? w _ hx226_1)).trans hx226_1; replace hx226_2 := (HB.out.cell (World.block_lt_of_cell? w _ hx226_2)).trans hx226_2; replace hx226_3 := (HB.out.cell (World.block_lt_of_cell? w _ hx226_3)).trans hx226_3; replace p226 := eq_true p226; replace q226 := eq_true q226) | ((with_reducible refine gate_callee (f := 29) rfl ?_); refine goesL_ (some 28) rfl rfl Tryd.func29 (by kernel_rfl) rfl #[.int .i64 10] rfl zb7_6 ?_; (with_reducible refine (spec_l06Ill.calls 10 t235 t236 t237 t240 t241 _ A70.out).mono ?_); rintro e w79 ⟨v238, rfl, ho0, hb⟩; refine ⟨_, rfl, ?_⟩; have HO239 := Aside0.mk (Kd.R_lower ho0 (below_size zb18_6)); replace BK208 := bkb BK208 hb; replace BK209 := bkb BK209 hb; replace HB := Aside0.mk (below_step zb18_6 hb); (try clear hb); (try clear ho0); obtain ⟨z0, z1, z2, z3, z4, z5, z6, z7, z8, z9⟩ := bz5 BK209.out; obtain ⟨Ao81, co81, eo81⟩ := Kd.R_slice HO239.out; subst eo81))
  refine bodyPost_ret (results_cell_row rfl _ _ gb209 29 #[.string t235, .int .i64 t236, .slice Ao81 t237.length co81, .int .i64 t240, .int .i64 t241] (0, 0) _ rfl (by apply bp5; exact BK209.out) Tryd.underlying29 rfl (by kernel_rfl)) rfl ?_
  exact ⟨_, by rfl, by exact Kd.R_mono (rfa (rfa (rfa (rfa (rfa (Kd.R_types HO239.out BK209.out (by decide)) (fun _ h => h.2)) (fun _ h => h.2)) (fun _ h => h.2)) (fun _ h => h.2)) (fun _ h => h.2)) (fun _ hk => trivial), by repeat ((with_reducible first | exact HB.out | refine below_set ?_ GE209.out))⟩
 rw [if_pos c21] at H
 have c21b0 : (((rd_T43 l0_2 t218).f2) == 1) = true := beq_iff_eq.mpr c21
 have c21b1 : (((rd_T43 l0_2 t218).f2) != 1) = false := bne_eq_false_iff_eq.mpr c21
 clear c21
 replace H := Option.bind_eq_some_iff.mp H
 obtain ⟨⟨t227, t228, t229⟩, A220, H⟩ := H
 (try dsimp -simprocs only at H)
 have A22 := Aside0.mk A220
 clear A220
 by_cases c23 : t218 < (t229.length : Int)
 rotate_left
 · rw [if_neg c23] at H; exact absurd H (by simp)
 rw [if_pos c23] at H
 have c23b0 := decide_eq_true c23
 clear c23
 obtain ⟨y233, hy233⟩ : ∃ y_ : List (S43), y_ = (t229.set (t218 : Int).toNat (⟨(rd_T43 t229 t218).f0, (rd_T43 t229 t218).f1, 3, (rd_T43 t229 t218).f3⟩ : S43)) := ⟨_, rfl⟩
 replace H : (if a2 = true then (some (t227, t228, (y233.set (t218 : Int).toNat (⟨(rd_T43 y233 t218).f0, (rd_T43 y233 t218).f1, 2, (rd_T43 y233 t218).f3⟩ : S43)), 0, 0)) else (some (t227, t228, y233, 0, 0))) = some (r1, r2, r3, r4, r5) := by (have H2_ := (Option.bind_some _ _).symm.trans H; rw [hy233]; with_reducible exact H2_)
 have Ny233 := Aside0.mk hy233
 clear hy233
 by_cases c25 : a2 = true
 rotate_left
 ·
  replace c25 := Bool.eq_false_iff.mpr c25
  subst c25
  rw [if_neg (show ¬ (false = true) by decide)] at H
  simp only [Option.some.injEq, Prod.mk.injEq] at H
  obtain ⟨rfl, rfl, rfl, rfl, rfl⟩ := H
  go_enter Tryd.func13, Tryd.ntmps13
  go_wp2_with (first | ((with_reducible refine gate_dst (N := 3) rfl ?_); refine box_event ?hg (N := 3) ?hd (cs := #[.string a0_0, .int .i64 a0_1, .slice A0_2 l0_2.length c0_2]) (t := 25) ?hr ?_; (case hd => rfl); (case hg => rfl); (case hr => (go_simp; done)); intro gb208 hg w50 hbox hb; have BK208 := Aside0.mk (hbox); have GW208 := Aside0.mk ((zb1_6 : w.heap.size ≤ gb208)); have GE208 := GW208; replace HB := Aside0.mk (below_step zb0_6 hb); clear hb hbox hg) | ((with_reducible refine gate_dst (N := 6) rfl ?_); refine box_event ?hg (N := 6) ?hd (cs := #[.string (⟨#[]⟩ : ByteArray), .int .i64 0, .slice none 0 0, .int .i64 0, .int .i64 0]) (t := 29) ?hr ?_; (case hd => rfl); (case hg => rfl); (case hr => (go_simp; done)); intro gb209 hg w51 hbox hb; have BK209 := Aside0.mk (hbox); have GW209 := Aside0.mk ((zb14_6 : w.heap.size ≤ gb209)); have GE209 := GW209; replace HB := Aside0.mk (below_step zb13_6 hb); have NB208_209 := Aside0.mk ((zb15_6 : gb208 ≠ gb209)); have NB209_208 := Aside0.mk ((zb16_6 : gb209 ≠ gb208)); replace BK208 := bkb BK208 hb; clear hb hbox hg; have hnb52 := NB208_209.out; have hnc52 := NB209_208.out; obtain ⟨z0, z1, z2, z3, z4, z5⟩ := bz3 BK208.out) | ((with_reducible refine gate_callee (f := 15) rfl ?_); refine goesL_ (some 10) rfl rfl Tryd.func15 (by kernel_rfl) rfl #[.agg #[.string a0_0, .int .i64 a0_1, .slice A0_2 l0_2.length c0_2]] rfl zb7_6 ?_; (with_reducible refine (spec_DialbackRight.calls k a0_0 a0_1 _ _ l0_2 true _ ?side1 ?side2 A4.out).mono ?_); (case side1 => repeat ((exact (Kd.C_below HR0_2.out HB.out)))); (case side2 => exact HC0_2.out); rintro e w54 ⟨rfl, hb⟩; refine ⟨_, rfl, ?_⟩; replace BK208 := bkb BK208 hb; replace BK209 := bkb BK209 hb; replace HB := Aside0.mk (below_step zb18_6 hb); (try clear hb); obtain ⟨z0, z1, z2, z3, z4, z5⟩ := bz3 BK208.out) | ((with_reducible refine gate_callee (f := 32) rfl ?_); refine goesL_ (some 15) rfl rfl Tryd.func32 (by kernel_rfl) rfl #[.agg #[.string a0_0, .int .i64 a0_1, .slice A0_2 l0_2.length c0_2], .int .i64 a1] rfl zb7_6 ?_; (with_reducible refine (spec_l06Peer.calls k a0_0 a0_1 _ _ l0_2 a1 t218 _ ?side1 ?side2 A6.out).mono ?_); (case side1 => repeat ((exact (Kd.C_below HR0_2.out HB.out)))); (case side2 => exact HC0_2.out); rintro e w56 ⟨rfl, hb⟩; refine ⟨_, rfl, ?_⟩; replace BK208 := bkb BK208 hb; replace BK209 := bkb BK209 hb; replace HB := Aside0.mk (below_step zb18_6 hb); (try clear hb); obtain ⟨z0, z1, z2, z3, z4, z5⟩ := bz3 BK208.out; have p226 : 0 ≤ (t218 : Int) := of_decide_eq_true zb10_6; have q226 : t218 < (l0_2.length : Int) := of_decide_eq_true zb10_6; obtain ⟨ad226, e226, hx226_0, hx226_1, hx226_2, hx226_3⟩ := at_T43 HR0_2.out t218 p226 q226; cases e226; replace hx226_0 := (HB.out.cell (World.block_lt_of_cell? w _ hx226_0)).trans hx226_0; replace hx226_1 := (HB.out.cell (World.block_lt_of_cell? w _ hx226_1)).trans hx226_1; replace hx226_2 := (HB.out.cell (World.block_lt_of_cell? w _ hx226_2)).trans hx226_2; replace hx226_3 := (HB.out.cell (World.block_lt_of_cell? w _ hx226_3)).trans hx226_3; replace p226 := eq_true p226; replace q226 := eq_true q226) | ((with_reducible refine gate_callee (f := 31) rfl ?_); refine goesL_ (some 30) rfl rfl Tryd.func31 (by kernel_rfl) rfl #[.agg #[.string a0_0, .int .i64 a0_1, .slice (some ad226) l0_2.length c0_2]] rfl zb7_6 ?_; (with_reducible refine (spec_l06Copy.calls a0_0 a0_1 _ _ l0_2 t227 t228 t229 _ ?side1 ?side2 A22.out).mono ?_); (case side1 => repeat ((exact (Kd.C_below HR0_2.out HB.out)))); (case side2 => exact HC0_2.out); rintro e w58 ⟨v230, rfl, ho0, hb⟩; refine ⟨_, rfl, ?_⟩; have HO231 := Aside0.mk (Kd.R_lower ho0 (below_size zb18_6)); replace BK208 := bkb BK208 hb; replace BK209 := bkb BK209 hb; replace HB := Aside0.mk (below_step zb18_6 hb); (try clear hb); (try clear ho0)) | ((with_reducible refine gate_dst (N := 8) rfl ?_); refine box_event ?hg (N := 8) ?hd (cs := #[.string (⟨#[]⟩ : ByteArray), .int .i64 0, .slice none 0 0]) (t := 25) ?hr ?_; (case hd => rfl); (case hg => rfl); (case hr => (go_simp; done)); intro gb232 hg w59 hbox hb; replace HO231 := Aside0.mk (Kd.R_below zb19_6 hb); have BK232 := Aside0.mk (hbox); have GW232 := Aside0.mk ((zb20_6 : w.heap.size ≤ gb232)); have GE232 := GW232; replace HB := Aside0.mk (below_step zb18_6 hb); have NB208_232 := Aside0.mk ((by rw [hg]; exact Nat.ne_of_lt (blk_lt (g := gb208) (o := .cells #[.string a0_0, .int .i64 a0_1, .slice (some ad226) l0_2.length c0_2] 25 (0, 0)) zb12_6) : gb208 ≠ gb232)); have NB232_208 := Aside0.mk ((by rw [hg]; exact Nat.ne_of_gt (blk_lt (g := gb208) (o := .cells #[.string a0_0, .int .i64 a0_1, .slice (some ad226) l0_2.length c0_2] 25 (0, 0)) zb12_6) : gb232 ≠ gb208)); replace BK208 := bkb BK208 hb; have NB209_232 := Aside0.mk ((by rw [hg]; exact Nat.ne_of_lt (blk_lt (g := gb209) (o := .cells #[.string (⟨#[]⟩ : ByteArray), .int .i64 0, .slice none 0 0, .int .i64 0, .int .i64 0] 29 (0, 0)) zb17_6) : gb209 ≠ gb232)); have NB232_209 := Aside0.mk ((by rw [hg]; exact Nat.ne_of_gt (blk_lt (g := gb209) (o := .cells #[.string (⟨#[]⟩ : ByteArray), .int .i64 0, .slice none 0 0, .int .i64 0, .int .i64 0] 29 (0, 0)) zb17_6) : gb232 ≠ gb209)); replace BK209 := bkb BK209 hb; clear hb hbox hg; have hnb60 := NB232_208.out; have hnc60 := NB208_232.out; have hnb61 := NB232_209.out; have hnc61 := NB209_232.out; obtain ⟨z0, z1, z2, z3, z4, z5⟩ := bz3 BK232.out; obtain ⟨Ao63, co63, eo63⟩ := Kd.R_slice HO231.out; subst eo63) | ((with_reducible refine gate_store (t := 25) (p := 8) rfl ?_); refine store_event (t := 25) (p := 8) (v := ?vo_w64) (w1 := (((w59.setCell ⟨gb232, 0, none⟩ (.string t227)).setCell ⟨gb232, 1, none⟩ (.int .i64 t228)).setCell ⟨gb232, 2, none⟩ (.slice Ao63 t229.length co63))) ?hg ?ho ?hn ?hr ?_; (case ho => rfl); (case hg => rfl); (case hn => rfl); (case hr => (go_simp; done)); intro w64 hw; have n0_ : Aside0 (Kd.R k43 43 w64 w.heap.size (fun _ => True) (.slice Ao63 t229.length co63) t229) := ⟨(by rw [hw]; exact (by exact Kd.R_mono (rfa (rfa (rfa (Kd.R_types HO231.out BK232.out (by decide)) (fun _ h => h.2)) (fun _ h => h.2)) (fun _ h => h.2)) (fun _ hk => trivial)))⟩; have n1_ : Aside0 (w64.heap[gb208]? = some (.cells #[.string a0_0, .int .i64 a0_1, .slice (some ad226) l0_2.length c0_2] 25 (0, 0))) := ⟨(by rw [hw]; exact (by refine blk_far ?_ NB208_232.out _; refine blk_far ?_ NB208_232.out _; refine blk_far ?_ NB208_232.out _; exact BK208.out))⟩; have n2_ : Aside0 (w64.heap[gb209]? = some (.cells #[.string (⟨#[]⟩ : ByteArray), .int .i64 0, .slice none 0 0, .int .i64 0, .int .i64 0] 29 (0, 0))) := ⟨(by rw [hw]; exact (by refine blk_far ?_ NB209_232.out _; refine blk_far ?_ NB209_232.out _; refine blk_far ?_ NB209_232.out _; exact BK209.out))⟩; have n3_ : Aside0 (w64.heap[gb232]? = some (.cells #[.string t227, .int .i64 t228, .slice Ao63 t229.length co63] 25 (0, 0))) := ⟨(by rw [hw]; exact (by apply bp3; exact BK232.out))⟩; have n4_ : Aside0 (Below w.heap.size w w64) := ⟨(by rw [hw]; exact (by repeat ((with_reducible first | exact HB.out | refine below_set ?_ GE232.out))))⟩; clear hw; clear HO231; clear BK208; clear BK209; clear BK232; clear HB; have HO231 := n0_; have BK208 := n1_; have BK209 := n2_; have BK232 := n3_; have HB := n4_; clear n0_ n1_ n2_ n3_ n4_; obtain ⟨z0, z1, z2, z3, z4, z5⟩ := bz3 BK232.out; have p24 : 0 ≤ (t218 : Int) := of_decide_eq_true zb10_6; have q24 : (t218 : Int) < ((t229.length : Int) : Int) := of_decide_eq_true zb10_6; obtain ⟨go24, co24, eo24, gb24, gl24, cl24, HG24⟩ := Kd.R_form HO231.out (by omega); ((cases eo24)); have GB24 := Aside0.mk gb24; have GG24 := Aside0.mk HG24; clear gb24 gl24 HG24; obtain ⟨ce24, hcl24, hM24, hcc24, hfr24⟩ := Kd.R_elem HO231.out z43 (t218 : Int) p24 q24; obtain rfl := k43_openM hM24; have hx24_0 : w64.cell? ⟨go24, (t218 : Int).toNat * 4, none⟩ = some (.string ((rd_T43 t229 t218).f0)) := hcc24 0 _ rfl; have hx24_1 : w64.cell? ⟨go24, (t218 : Int).toNat * 4 + 1, none⟩ = some (.int .i64 ((rd_T43 t229 t218).f1)) := hcc24 1 _ rfl; have hx24_2 : w64.cell? ⟨go24, (t218 : Int).toNat * 4 + 2, none⟩ = some (.int .i64 ((rd_T43 t229 t218).f2)) := hcc24 2 _ rfl; have hx24_3 : w64.cell? ⟨go24, (t218 : Int).toNat * 4 + 3, none⟩ = some (.string ((rd_T43 t229 t218).f3)) := hcc24 3 _ rfl; have hf24_0 : w64.frozen? ⟨go24, (t218 : Int).toNat * 4, none⟩ = false := hfr24 0; have hf24_1 : w64.frozen? ⟨go24, (t218 : Int).toNat * 4 + 1, none⟩ = false := hfr24 1; have hf24_2 : w64.frozen? ⟨go24, (t218 : Int).toNat * 4 + 2, none⟩ = false := hfr24 2; have hf24_3 : w64.frozen? ⟨go24, (t218 : Int).toNat * 4 + 3, none⟩ = false := hfr24 3; clear hcl24 hcc24 hfr24 hM24; replace p24 := eq_true p24; replace q24 := eq_true q24; have HX66 := Aside0.mk (show Kd.R k43 43 w64 w.heap.size (fun _ => True) (.slice (some ⟨go24, 0, none⟩) t229.length co63) t229 from zb19_6); obtain ⟨ce66, hcl66, hM66, hcc66, hfr66⟩ := Kd.R_elem HX66.out z43 (t218 : Int) (of_decide_eq_true zb10_6) (by have h_ : (t218 : Int) < ((t229.length : Int) : Int) := of_decide_eq_true zb10_6; (exact h_)); obtain rfl := k43_openM hM66; have HP66 := Kd.R_seg HX66.out (t218 : Int) (of_decide_eq_true zb10_6) (by have h_ : (t218 : Int) < ((t229.length : Int) : Int) := of_decide_eq_true zb10_6; (exact h_)) (seg := [.int .i64 3]) (j := 2) hcl66 hcc66 (show 3 ≤ 4 from by decide) (x' := (⟨(rd_T43 t229 t218).f0, (rd_T43 t229 t218).f1, 3, (rd_T43 t229 t218).f3⟩ : S43)) (k43_mkM _ _ _ (⟨(rd_T43 t229 t218).f0, (rd_T43 t229 t218).f1, 3, (rd_T43 t229 t218).f3⟩ : S43) ) (fun _ hk => hk); have hx66_2 := hcc66 2 _ rfl; (try simp only [show (k43).sz = 4 from rfl, Nat.mul_one, Nat.add_zero] at hx66_2); have hf66_2 := hfr66 2; (try simp only [show (k43).sz = 4 from rfl, Nat.mul_one, Nat.add_zero] at hf66_2); clear hcl66 hcc66 hfr66 hM66) | ((with_reducible refine gate_store (t := 2) (p := 35) rfl ?_); refine store_event (t := 2) (p := 35) (v := ?vo_w67) (w1 := (w64.setCell ⟨go24, (t218 : Int).toNat * 4 + 2, none⟩ (.int .i64 3))) ?hg ?ho ?hn ?hr ?_; (case ho => rfl); (case hg => rfl); (case hn => rfl); (case hr => (go_simp; done)); intro w67 hw; have hg : w64.grownBy w67 (some go24) := (by rw [hw]; exact HP66.2); have hp_ : Kd.R k43 43 w67 w.heap.size (fun _ => True) (.slice (some ⟨go24, 0, none⟩) t229.length co63) y233 := (by rw [hw, Ny233.out]; exact HP66.1); clear HP66; replace BK208 := Aside0.mk (blk_grown (g := gb208) (o := .cells #[.string a0_0, .int .i64 a0_1, .slice (some ad226) l0_2.length c0_2] 25 (0, 0)) zb12_6 hg (Kd.R_ne HO231.out BK208.out (by decide))); replace BK209 := Aside0.mk (blk_grown (g := gb209) (o := .cells #[.string (⟨#[]⟩ : ByteArray), .int .i64 0, .slice none 0 0, .int .i64 0, .int .i64 0] 29 (0, 0)) zb17_6 hg (Kd.R_ne HO231.out BK209.out (by decide))); replace BK232 := Aside0.mk (blk_grown (g := gb232) (o := .cells #[.string t227, .int .i64 t228, .slice (some ⟨go24, 0, none⟩) t229.length co63] 25 (0, 0)) zb21_6 hg (Kd.R_ne HO231.out BK232.out (by decide))); replace HO231 := Aside0.mk (hp_); replace HB := Aside0.mk ((by rw [hw]; exact below_set (HB.out) GB24.out : Below w.heap.size w w67)); clear hg hw hp_; obtain ⟨z0, z1, z2, z3, z4, z5⟩ := bz3 BK232.out; obtain ⟨z0, z1, z2, z3, z4, z5, z6, z7, z8, z9⟩ := bz5 BK209.out))
  refine bodyPost_ret (results_cell_row rfl _ _ gb209 29 #[.string t227, .int .i64 t228, .slice (some ⟨go24, 0, none⟩) t229.length co63, .int .i64 0, .int .i64 0] (0, 0) _ rfl (by apply bp5; exact BK209.out) Tryd.underlying29 rfl (by kernel_rfl)) rfl ?_
  exact ⟨_, by rfl, by exact Kd.R_mono (rfa (rfa (rfa (rfa (rfa (Kd.R_types HO231.out BK209.out (by decide)) (fun _ h => h.2)) (fun _ h => h.2)) (fun _ h => h.2)) (fun _ h => h.2)) (fun _ h => h.2)) (fun _ hk => trivial), by repeat ((with_reducible first | exact HB.out | refine below_set ?_ GE209.out))⟩
 subst c25
 rw [if_pos rfl] at H
 obtain ⟨y234, hy234⟩ : ∃ y_ : List (S43), y_ = (y233.set (t218 : Int).toNat (⟨(rd_T43 y233 t218).f0, (rd_T43 y233 t218).f1, 2, (rd_T43 y233 t218).f3⟩ : S43)) := ⟨_, rfl⟩
 replace H : (some (t227, t228, y234, 0, 0)) = some (r1, r2, r3, r4, r5) := by (rw [hy234]; with_reducible exact H)
 have Ny234 := Aside0.mk hy234
 clear hy234
 simp only [Option.some.injEq, Prod.mk.injEq] at H
 obtain ⟨rfl, rfl, rfl, rfl, rfl⟩ := H
 go_enter Tryd.func13, Tryd.ntmps13
 go_wp2_with (first | ((with_reducible refine gate_dst (N := 3) rfl ?_); refine box_event ?hg (N := 3) ?hd (cs := #[.string a0_0, .int .i64 a0_1, .slice A0_2 l0_2.length c0_2]) (t := 25) ?hr ?_; (case hd => rfl); (case hg => rfl); (case hr => (go_simp; done)); intro gb208 hg w27 hbox hb; have BK208 := Aside0.mk (hbox); have GW208 := Aside0.mk ((zb1_6 : w.heap.size ≤ gb208)); have GE208 := GW208; replace HB := Aside0.mk (below_step zb0_6 hb); clear hb hbox hg) | ((with_reducible refine gate_dst (N := 6) rfl ?_); refine box_event ?hg (N := 6) ?hd (cs := #[.string (⟨#[]⟩ : ByteArray), .int .i64 0, .slice none 0 0, .int .i64 0, .int .i64 0]) (t := 29) ?hr ?_; (case hd => rfl); (case hg => rfl); (case hr => (go_simp; done)); intro gb209 hg w28 hbox hb; have BK209 := Aside0.mk (hbox); have GW209 := Aside0.mk ((zb14_6 : w.heap.size ≤ gb209)); have GE209 := GW209; replace HB := Aside0.mk (below_step zb13_6 hb); have NB208_209 := Aside0.mk ((zb15_6 : gb208 ≠ gb209)); have NB209_208 := Aside0.mk ((zb16_6 : gb209 ≠ gb208)); replace BK208 := bkb BK208 hb; clear hb hbox hg; have hnb29 := NB208_209.out; have hnc29 := NB209_208.out; obtain ⟨z0, z1, z2, z3, z4, z5⟩ := bz3 BK208.out) | ((with_reducible refine gate_callee (f := 15) rfl ?_); refine goesL_ (some 10) rfl rfl Tryd.func15 (by kernel_rfl) rfl #[.agg #[.string a0_0, .int .i64 a0_1, .slice A0_2 l0_2.length c0_2]] rfl zb7_6 ?_; (with_reducible refine (spec_DialbackRight.calls k a0_0 a0_1 _ _ l0_2 true _ ?side1 ?side2 A4.out).mono ?_); (case side1 => repeat ((exact (Kd.C_below HR0_2.out HB.out)))); (case side2 => exact HC0_2.out); rintro e w31 ⟨rfl, hb⟩; refine ⟨_, rfl, ?_⟩; replace BK208 := bkb BK208 hb; replace BK209 := bkb BK209 hb; replace HB := Aside0.mk (below_step zb18_6 hb); (try clear hb); obtain ⟨z0, z1, z2, z3, z4, z5⟩ := bz3 BK208.out) | ((with_reducible refine gate_callee (f := 32) rfl ?_); refine goesL_ (some 15) rfl rfl Tryd.func32 (by kernel_rfl) rfl #[.agg #[.string a0_0, .int .i64 a0_1, .slice A0_2 l0_2.length c0_2], .int .i64 a1] rfl zb7_6 ?_; (with_reducible refine (spec_l06Peer.calls k a0_0 a0_1 _ _ l0_2 a1 t218 _ ?side1 ?side2 A6.out).mono ?_); (case side1 => repeat ((exact (Kd.C_below HR0_2.out HB.out)))); (case side2 => exact HC0_2.out); rintro e w33 ⟨rfl, hb⟩; refine ⟨_, rfl, ?_⟩; replace BK208 := bkb BK208 hb; replace BK209 := bkb BK209 hb; replace HB := Aside0.mk (below_step zb18_6 hb); (try clear hb); obtain ⟨z0, z1, z2, z3, z4, z5⟩ := bz3 BK208.out; have p226 : 0 ≤ (t218 : Int) := of_decide_eq_true zb10_6; have q226 : t218 < (l0_2.length : Int) := of_decide_eq_true zb10_6; obtain ⟨ad226, e226, hx226_0, hx226_1, hx226_2, hx226_3⟩ := at_T43 HR0_2.out t218 p226 q226; cases e226; replace hx226_0 := (HB.out.cell (World.block_lt_of_cell? w _ hx226_0)).trans hx226_0; replace hx226_1 := (HB.out.cell (World.block_lt_of_cell? w _ hx226_1)).trans hx226_1; replace hx226_2 := (HB.out.cell (World.block_lt_of_cell? w _ hx226_2)).trans hx226_2; replace hx226_3 := (HB.out.cell (World.block_lt_of_cell? w _ hx226_3)).trans hx226_3; replace p226 := eq_true p226; replace q226 := eq_true q226) | ((with_reducible refine gate_callee (f := 31) rfl ?_); refine goesL_ (some 30) rfl rfl Tryd.func31 (by kernel_rfl) rfl #[.agg #[.string a0_0, .int .i64 a0_1, .slice (some ad226) l0_2.length c0_2]] rfl zb7_6 ?_; (with_reducible refine (spec_l06Copy.calls a0_0 a0_1 _ _ l0_2 t227 t228 t229 _ ?side1 ?side2 A22.out).mono ?_); (case side1 => repeat ((exact (Kd.C_below HR0_2.out HB.out)))); (case side2 => exact HC0_2.out); rintro e w35 ⟨v230, rfl, ho0, hb⟩; refine ⟨_, rfl, ?_⟩; have HO231 := Aside0.mk (Kd.R_lower ho0 (below_size zb18_6)); replace BK208 := bkb BK208 hb; replace BK209 := bkb BK209 hb; replace HB := Aside0.mk (below_step zb18_6 hb); (try clear hb); (try clear ho0)) | ((with_reducible refine gate_dst (N := 8) rfl ?_); refine box_event ?hg (N := 8) ?hd (cs := #[.string (⟨#[]⟩ : ByteArray), .int .i64 0, .slice none 0 0]) (t := 25) ?hr ?_; (case hd => rfl); (case hg => rfl); (case hr => (go_simp; done)); intro gb232 hg w36 hbox hb; replace HO231 := Aside0.mk (Kd.R_below zb19_6 hb); have BK232 := Aside0.mk (hbox); have GW232 := Aside0.mk ((zb20_6 : w.heap.size ≤ gb232)); have GE232 := GW232; replace HB := Aside0.mk (below_step zb18_6 hb); have NB208_232 := Aside0.mk ((by rw [hg]; exact Nat.ne_of_lt (blk_lt (g := gb208) (o := .cells #[.string a0_0, .int .i64 a0_1, .slice (some ad226) l0_2.length c0_2] 25 (0, 0)) zb12_6) : gb208 ≠ gb232)); have NB232_208 := Aside0.mk ((by rw [hg]; exact Nat.ne_of_gt (blk_lt (g := gb208) (o := .cells #[.string a0_0, .int .i64 a0_1, .slice (some ad226) l0_2.length c0_2] 25 (0, 0)) zb12_6) : gb232 ≠ gb208)); replace BK208 := bkb BK208 hb; have NB209_232 := Aside0.mk ((by rw [hg]; exact Nat.ne_of_lt (blk_lt (g := gb209) (o := .cells #[.string (⟨#[]⟩ : ByteArray), .int .i64 0, .slice none 0 0, .int .i64 0, .int .i64 0] 29 (0, 0)) zb17_6) : gb209 ≠ gb232)); have NB232_209 := Aside0.mk ((by rw [hg]; exact Nat.ne_of_gt (blk_lt (g := gb209) (o := .cells #[.string (⟨#[]⟩ : ByteArray), .int .i64 0, .slice none 0 0, .int .i64 0, .int .i64 0] 29 (0, 0)) zb17_6) : gb232 ≠ gb209)); replace BK209 := bkb BK209 hb; clear hb hbox hg; have hnb37 := NB232_208.out; have hnc37 := NB208_232.out; have hnb38 := NB232_209.out; have hnc38 := NB209_232.out; obtain ⟨z0, z1, z2, z3, z4, z5⟩ := bz3 BK232.out; obtain ⟨Ao40, co40, eo40⟩ := Kd.R_slice HO231.out; subst eo40) | ((with_reducible refine gate_store (t := 25) (p := 8) rfl ?_); refine store_event (t := 25) (p := 8) (v := ?vo_w41) (w1 := (((w36.setCell ⟨gb232, 0, none⟩ (.string t227)).setCell ⟨gb232, 1, none⟩ (.int .i64 t228)).setCell ⟨gb232, 2, none⟩ (.slice Ao40 t229.length co40))) ?hg ?ho ?hn ?hr ?_; (case ho => rfl); (case hg => rfl); (case hn => rfl); (case hr => (go_simp; done)); intro w41 hw; have n0_ : Aside0 (Kd.R k43 43 w41 w.heap.size (fun _ => True) (.slice Ao40 t229.length co40) t229) := ⟨(by rw [hw]; exact (by exact Kd.R_mono (rfa (rfa (rfa (Kd.R_types HO231.out BK232.out (by decide)) (fun _ h => h.2)) (fun _ h => h.2)) (fun _ h => h.2)) (fun _ hk => trivial)))⟩; have n1_ : Aside0 (w41.heap[gb208]? = some (.cells #[.string a0_0, .int .i64 a0_1, .slice (some ad226) l0_2.length c0_2] 25 (0, 0))) := ⟨(by rw [hw]; exact (by refine blk_far ?_ NB208_232.out _; refine blk_far ?_ NB208_232.out _; refine blk_far ?_ NB208_232.out _; exact BK208.out))⟩; have n2_ : Aside0 (w41.heap[gb209]? = some (.cells #[.string (⟨#[]⟩ : ByteArray), .int .i64 0, .slice none 0 0, .int .i64 0, .int .i64 0] 29 (0, 0))) := ⟨(by rw [hw]; exact (by refine blk_far ?_ NB209_232.out _; refine blk_far ?_ NB209_232.out _; refine blk_far ?_ NB209_232.out _; exact BK209.out))⟩; have n3_ : Aside0 (w41.heap[gb232]? = some (.cells #[.string t227, .int .i64 t228, .slice Ao40 t229.length co40] 25 (0, 0))) := ⟨(by rw [hw]; exact (by apply bp3; exact BK232.out))⟩; have n4_ : Aside0 (Below w.heap.size w w41) := ⟨(by rw [hw]; exact (by repeat ((with_reducible first | exact HB.out | refine below_set ?_ GE232.out))))⟩; clear hw; clear HO231; clear BK208; clear BK209; clear BK232; clear HB; have HO231 := n0_; have BK208 := n1_; have BK209 := n2_; have BK232 := n3_; have HB := n4_; clear n0_ n1_ n2_ n3_ n4_; obtain ⟨z0, z1, z2, z3, z4, z5⟩ := bz3 BK232.out; have p24 : 0 ≤ (t218 : Int) := of_decide_eq_true zb10_6; have q24 : (t218 : Int) < ((t229.length : Int) : Int) := of_decide_eq_true zb10_6; obtain ⟨go24, co24, eo24, gb24, gl24, cl24, HG24⟩ := Kd.R_form HO231.out (by omega); ((cases eo24)); have GB24 := Aside0.mk gb24; have GG24 := Aside0.mk HG24; clear gb24 gl24 HG24; obtain ⟨ce24, hcl24, hM24, hcc24, hfr24⟩ := Kd.R_elem HO231.out z43 (t218 : Int) p24 q24; obtain rfl := k43_openM hM24; have hx24_0 : w41.cell? ⟨go24, (t218 : Int).toNat * 4, none⟩ = some (.string ((rd_T43 t229 t218).f0)) := hcc24 0 _ rfl; have hx24_1 : w41.cell? ⟨go24, (t218 : Int).toNat * 4 + 1, none⟩ = some (.int .i64 ((rd_T43 t229 t218).f1)) := hcc24 1 _ rfl; have hx24_2 : w41.cell? ⟨go24, (t218 : Int).toNat * 4 + 2, none⟩ = some (.int .i64 ((rd_T43 t229 t218).f2)) := hcc24 2 _ rfl; have hx24_3 : w41.cell? ⟨go24, (t218 : Int).toNat * 4 + 3, none⟩ = some (.string ((rd_T43 t229 t218).f3)) := hcc24 3 _ rfl; have hf24_0 : w41.frozen? ⟨go24, (t218 : Int).toNat * 4, none⟩ = false := hfr24 0; have hf24_1 : w41.frozen? ⟨go24, (t218 : Int).toNat * 4 + 1, none⟩ = false := hfr24 1; have hf24_2 : w41.frozen? ⟨go24, (t218 : Int).toNat * 4 + 2, none⟩ = false := hfr24 2; have hf24_3 : w41.frozen? ⟨go24, (t218 : Int).toNat * 4 + 3, none⟩ = false := hfr24 3; clear hcl24 hcc24 hfr24 hM24; replace p24 := eq_true p24; replace q24 := eq_true q24; have HX43 := Aside0.mk (show Kd.R k43 43 w41 w.heap.size (fun _ => True) (.slice (some ⟨go24, 0, none⟩) t229.length co40) t229 from zb19_6); obtain ⟨ce43, hcl43, hM43, hcc43, hfr43⟩ := Kd.R_elem HX43.out z43 (t218 : Int) (of_decide_eq_true zb10_6) (by have h_ : (t218 : Int) < ((t229.length : Int) : Int) := of_decide_eq_true zb10_6; (exact h_)); obtain rfl := k43_openM hM43; have HP43 := Kd.R_seg HX43.out (t218 : Int) (of_decide_eq_true zb10_6) (by have h_ : (t218 : Int) < ((t229.length : Int) : Int) := of_decide_eq_true zb10_6; (exact h_)) (seg := [.int .i64 3]) (j := 2) hcl43 hcc43 (show 3 ≤ 4 from by decide) (x' := (⟨(rd_T43 t229 t218).f0, (rd_T43 t229 t218).f1, 3, (rd_T43 t229 t218).f3⟩ : S43)) (k43_mkM _ _ _ (⟨(rd_T43 t229 t218).f0, (rd_T43 t229 t218).f1, 3, (rd_T43 t229 t218).f3⟩ : S43) ) (fun _ hk => hk); have hx43_2 := hcc43 2 _ rfl; (try simp only [show (k43).sz = 4 from rfl, Nat.mul_one, Nat.add_zero] at hx43_2); have hf43_2 := hfr43 2; (try simp only [show (k43).sz = 4 from rfl, Nat.mul_one, Nat.add_zero] at hf43_2); clear hcl43 hcc43 hfr43 hM43) | ((with_reducible refine gate_store (t := 2) (p := 35) rfl ?_); refine store_event (t := 2) (p := 35) (v := ?vo_w44) (w1 := (w41.setCell ⟨go24, (t218 : Int).toNat * 4 + 2, none⟩ (.int .i64 3))) ?hg ?ho ?hn ?hr ?_; (case ho => rfl); (case hg => rfl); (case hn => rfl); (case hr => (go_simp; done)); intro w44 hw; have hg : w41.grownBy w44 (some go24) := (by rw [hw]; exact HP43.2); have hp_ : Kd.R k43 43 w44 w.heap.size (fun _ => True) (.slice (some ⟨go24, 0, none⟩) t229.length co40) y233 := (by rw [hw, Ny233.out]; exact HP43.1); clear HP43; replace BK208 := Aside0.mk (blk_grown (g := gb208) (o := .cells #[.string a0_0, .int .i64 a0_1, .slice (some ad226) l0_2.length c0_2] 25 (0, 0)) zb12_6 hg (Kd.R_ne HO231.out BK208.out (by decide))); replace BK209 := Aside0.mk (blk_grown (g := gb209) (o := .cells #[.string (⟨#[]⟩ : ByteArray), .int .i64 0, .slice none 0 0, .int .i64 0, .int .i64 0] 29 (0, 0)) zb17_6 hg (Kd.R_ne HO231.out BK209.out (by decide))); replace BK232 := Aside0.mk (blk_grown (g := gb232) (o := .cells #[.string t227, .int .i64 t228, .slice (some ⟨go24, 0, none⟩) t229.length co40] 25 (0, 0)) zb21_6 hg (Kd.R_ne HO231.out BK232.out (by decide))); replace HO231 := Aside0.mk (hp_); replace HB := Aside0.mk ((by rw [hw]; exact below_set (HB.out) GB24.out : Below w.heap.size w w44)); clear hg hw hp_; obtain ⟨z0, z1, z2, z3, z4, z5⟩ := bz3 BK232.out; have p26 : 0 ≤ (t218 : Int) := of_decide_eq_true zb10_6; have q26 : (t218 : Int) < ((t229.length : Int) : Int) := of_decide_eq_true zb10_6; obtain ⟨ce26, hcl26, hM26, hcc26, hfr26⟩ := Kd.R_elem HO231.out z43 (t218 : Int) p26 q26; obtain rfl := k43_openM hM26; have hx26_0 : w44.cell? ⟨go24, (t218 : Int).toNat * 4, none⟩ = some (.string ((rd_T43 y233 t218).f0)) := hcc26 0 _ rfl; have hx26_1 : w44.cell? ⟨go24, (t218 : Int).toNat * 4 + 1, none⟩ = some (.int .i64 ((rd_T43 y233 t218).f1)) := hcc26 1 _ rfl; have hx26_2 : w44.cell? ⟨go24, (t218 : Int).toNat * 4 + 2, none⟩ = some (.int .i64 ((rd_T43 y233 t218).f2)) := hcc26 2 _ rfl; have hx26_3 : w44.cell? ⟨go24, (t218 : Int).toNat * 4 + 3, none⟩ = some (.string ((rd_T43 y233 t218).f3)) := hcc26 3 _ rfl; have hf26_0 : w44.frozen? ⟨go24, (t218 : Int).toNat * 4, none⟩ = false := hfr26 0; have hf26_1 : w44.frozen? ⟨go24, (t218 : Int).toNat * 4 + 1, none⟩ = false := hfr26 1; have hf26_2 : w44.frozen? ⟨go24, (t218 : Int).toNat * 4 + 2, none⟩ = false := hfr26 2; have hf26_3 : w44.frozen? ⟨go24, (t218 : Int).toNat * 4 + 3, none⟩ = false := hfr26 3; clear hcl26 hcc26 hfr26 hM26; replace p26 := eq_true p26; replace q26 := eq_true q26; have HX46 := Aside0.mk (show Kd.R k43 43 w44 w.heap.size (fun _ => True) (.slice (some ⟨go24, 0, none⟩) t229.length co40) y233 from zb19_6); obtain ⟨ce46, hcl46, hM46, hcc46, hfr46⟩ := Kd.R_elem HX46.out z43 (t218 : Int) (of_decide_eq_true zb10_6) (by have h_ : (t218 : Int) < ((t229.length : Int) : Int) := of_decide_eq_true zb10_6; (exact h_)); obtain rfl := k43_openM hM46; have HP46 := Kd.R_seg HX46.out (t218 : Int) (of_decide_eq_true zb10_6) (by have h_ : (t218 : Int) < ((t229.length : Int) : Int) := of_decide_eq_true zb10_6; (exact h_)) (seg := [.int .i64 2]) (j := 2) hcl46 hcc46 (show 3 ≤ 4 from by decide) (x' := (⟨(rd_T43 y233 t218).f0, (rd_T43 y233 t218).f1, 2, (rd_T43 y233 t218).f3⟩ : S43)) (k43_mkM _ _ _ (⟨(rd_T43 y233 t218).f0, (rd_T43 y233 t218).f1, 2, (rd_T43 y233 t218).f3⟩ : S43) ) (fun _ hk => hk); have hx46_2 := hcc46 2 _ rfl; (try simp only [show (k43).sz = 4 from rfl, Nat.mul_one, Nat.add_zero] at hx46_2); have hf46_2 := hfr46 2; (try simp only [show (k43).sz = 4 from rfl, Nat.mul_one, Nat.add_zero] at hf46_2); clear hcl46 hcc46 hfr46 hM46) | ((with_reducible refine gate_store (t := 2) (p := 41) rfl ?_); refine store_event (t := 2) (p := 41) (v := ?vo_w47) (w1 := (w44.setCell ⟨go24, (t218 : Int).toNat * 4 + 2, none⟩ (.int .i64 2))) ?hg ?ho ?hn ?hr ?_; (case ho => rfl); (case hg => rfl); (case hn => rfl); (case hr => (go_simp; done)); intro w47 hw; have hg : w44.grownBy w47 (some go24) := (by rw [hw]; exact HP46.2); have hp_ : Kd.R k43 43 w47 w.heap.size (fun _ => True) (.slice (some ⟨go24, 0, none⟩) t229.length co40) y234 := (by rw [hw, Ny234.out]; exact HP46.1); clear HP46; replace BK208 := Aside0.mk (blk_grown (g := gb208) (o := .cells #[.string a0_0, .int .i64 a0_1, .slice (some ad226) l0_2.length c0_2] 25 (0, 0)) zb12_6 hg (Kd.R_ne HO231.out BK208.out (by decide))); replace BK209 := Aside0.mk (blk_grown (g := gb209) (o := .cells #[.string (⟨#[]⟩ : ByteArray), .int .i64 0, .slice none 0 0, .int .i64 0, .int .i64 0] 29 (0, 0)) zb17_6 hg (Kd.R_ne HO231.out BK209.out (by decide))); replace BK232 := Aside0.mk (blk_grown (g := gb232) (o := .cells #[.string t227, .int .i64 t228, .slice (some ⟨go24, 0, none⟩) t229.length co40] 25 (0, 0)) zb21_6 hg (Kd.R_ne HO231.out BK232.out (by decide))); replace HO231 := Aside0.mk (hp_); replace HB := Aside0.mk ((by rw [hw]; exact below_set (HB.out) GB24.out : Below w.heap.size w w47)); clear hg hw hp_; obtain ⟨z0, z1, z2, z3, z4, z5⟩ := bz3 BK232.out; obtain ⟨z0, z1, z2, z3, z4, z5, z6, z7, z8, z9⟩ := bz5 BK209.out))
 refine bodyPost_ret (results_cell_row rfl _ _ gb209 29 #[.string t227, .int .i64 t228, .slice (some ⟨go24, 0, none⟩) t229.length co40, .int .i64 0, .int .i64 0] (0, 0) _ rfl (by apply bp5; exact BK209.out) Tryd.underlying29 rfl (by kernel_rfl)) rfl ?_
 exact ⟨_, by rfl, by exact Kd.R_mono (rfa (rfa (rfa (rfa (rfa (Kd.R_types HO231.out BK209.out (by decide)) (fun _ h => h.2)) (fun _ h => h.2)) (fun _ h => h.2)) (fun _ h => h.2)) (fun _ h => h.2)) (fun _ hk => trivial), by repeat ((with_reducible first | exact HB.out | refine below_set ?_ GE209.out))⟩
/-! ### spec_l01Src_n: function 25 -/
def spec_l01Src_n.f (s0_0 : List Int) (s0_1 : Int) (s0_2 : Int) (s0_3 : Int) (a1 : Int) : Option (Int × Int × Int × Int) := if a1 ≤ 1 then (some (0, s0_1, s0_2, s0_3)) else (if s0_1 < (s0_0.length : Int) then (if 0 ≤ s0_1 then (if (IntKind.u64.wrap (a1)) = 0 then (none) else (some (wrap64 (Int.tmod (IntKind.u64.wrap ((IntKind.u64.wrap (rd s0_0 s0_1)) + ((Go.bits .xor .u64 (Go.bits .xor .u64 (Go.bits .xor .u64 s0_2 (IntKind.u64.wrap (s0_2 * 8192))) ((Go.bits .xor .u64 s0_2 (IntKind.u64.wrap (s0_2 * 8192))) / 128)) (IntKind.u64.wrap ((Go.bits .xor .u64 (Go.bits .xor .u64 s0_2 (IntKind.u64.wrap (s0_2 * 8192))) ((Go.bits .xor .u64 s0_2 (IntKind.u64.wrap (s0_2 * 8192))) / 128)) * 131072))) / 1048576))) (IntKind.u64.wrap (a1))), wrap64 (s0_1 + 1), Go.bits .xor .u64 (Go.bits .xor .u64 (Go.bits .xor .u64 s0_2 (IntKind.u64.wrap (s0_2 * 8192))) ((Go.bits .xor .u64 s0_2 (IntKind.u64.wrap (s0_2 * 8192))) / 128)) (IntKind.u64.wrap ((Go.bits .xor .u64 (Go.bits .xor .u64 s0_2 (IntKind.u64.wrap (s0_2 * 8192))) ((Go.bits .xor .u64 s0_2 (IntKind.u64.wrap (s0_2 * 8192))) / 128)) * 131072)), s0_3))) else (none)) else (if (IntKind.u64.wrap (a1)) = 0 then (none) else (some (wrap64 (Int.tmod (IntKind.u64.wrap (0 + ((Go.bits .xor .u64 (Go.bits .xor .u64 (Go.bits .xor .u64 s0_2 (IntKind.u64.wrap (s0_2 * 8192))) ((Go.bits .xor .u64 s0_2 (IntKind.u64.wrap (s0_2 * 8192))) / 128)) (IntKind.u64.wrap ((Go.bits .xor .u64 (Go.bits .xor .u64 s0_2 (IntKind.u64.wrap (s0_2 * 8192))) ((Go.bits .xor .u64 s0_2 (IntKind.u64.wrap (s0_2 * 8192))) / 128)) * 131072))) / 1048576))) (IntKind.u64.wrap (a1))), s0_1, Go.bits .xor .u64 (Go.bits .xor .u64 (Go.bits .xor .u64 s0_2 (IntKind.u64.wrap (s0_2 * 8192))) ((Go.bits .xor .u64 s0_2 (IntKind.u64.wrap (s0_2 * 8192))) / 128)) (IntKind.u64.wrap ((Go.bits .xor .u64 (Go.bits .xor .u64 s0_2 (IntKind.u64.wrap (s0_2 * 8192))) ((Go.bits .xor .u64 s0_2 (IntKind.u64.wrap (s0_2 * 8192))) / 128)) * 131072)), s0_3))))
theorem spec_l01Src_n.set3 {w : World} {p : Addr} {x y z u : Value} (h : w.cell? p = some u) : (((w.setCell p x).setCell p y).setCell p z).cell? p = some z := by
 obtain ⟨v1, h1⟩ := cell?_setCell_some (p := p) (x := x) h
 obtain ⟨v2, h2⟩ := cell?_setCell_some (p := p) (x := y) h1
 exact World.cell?_setCell_same _ _ _ h2
theorem spec_l01Src_n.set3q {w : World} {q p : Addr} {t x y u : Value} (h : w.cell? p = some u) : (((w.setCell q t).setCell p x).setCell p y).cell? p = some y := by
 obtain ⟨v1, h1⟩ := cell?_setCell_some (p := q) (x := t) h
 obtain ⟨v2, h2⟩ := cell?_setCell_some (p := p) (x := x) h1
 exact World.cell?_setCell_same _ _ _ h2
theorem spec_l01Src_n.set4 {w : World} {q p : Addr} {t x y z u : Value} (h : w.cell? p = some u) : ((((w.setCell q t).setCell p x).setCell p y).setCell p z).cell? p = some z := by
 obtain ⟨v1, h1⟩ := cell?_setCell_some (p := q) (x := t) h
 exact spec_l01Src_n.set3 h1
set_option maxHeartbeats 8000000 in
set_option maxRecDepth 100000 in
theorem spec_l01Src_n.calls (g : Nat) (s0_0 : List Int) (s0_1 : Int) (s0_2 : Int) (s0_3 : Int) (a1 : Int) (r1 : Int) (r2 : Int) (r3 : Int) (r4 : Int) (w0 w : World) (hI : IsS60 w0 w g s0_0 s0_1 s0_2 s0_3) (hB : Below w0.heap.size w0 w) (h : spec_l01Src_n.f s0_0 s0_1 s0_2 s0_3 a1 = some (r1, r2, r3, r4)) :
  Calls Tryd.prog 25 #[.pointer (some ⟨g, 0, none⟩), .int .i64 a1] w fun e w' => e = .returned (.int .i64 r1) ∧ IsS60 w0 w' g s0_0 r2 r3 r4 ∧ Below w0.heap.size w0 w' ∧ KeepBut w w' g none := by
 obtain ⟨A0, c0, hb, hg, hr0⟩ := hI
 have hc0 : w.cell? ⟨g, 0, none⟩ = some (.slice A0 s0_0.length c0) := (blk_cell hb 0).trans rfl
 have hc1 : w.cell? ⟨g, 1, none⟩ = some (.int .i64 s0_1) := (blk_cell hb 1).trans rfl
 have hc2 : w.cell? ⟨g, 2, none⟩ = some (.int .u64 s0_2) := (blk_cell hb 2).trans rfl
 have hz1 := blk_frozen hb 1
 have hz2 := blk_frozen hb 2
 unfold spec_l01Src_n.f at h
 by_cases c1 : a1 ≤ 1
 ·
  rw [if_pos c1] at h
  simp only [Option.some.injEq, Prod.mk.injEq] at h
  obtain ⟨rfl, rfl, rfl, rfl⟩ := h
  have c1b : decide (a1 ≤ 1) = true := decide_eq_true c1
  have HB := Aside0.mk hB
  have Hb := Aside0.mk hb
  have Hr := Aside0.mk hr0
  clear c1 hB hb hr0
  go_enter Tryd.func25, Tryd.ntmps25
  go_wp2
  go_ret
  exact ⟨rfl, ⟨A0, c0, Hb.out, hg, Hr.out⟩, HB.out, KeepBut.refl _ _ _⟩
 rw [if_neg c1] at h
 have c1b : decide (a1 ≤ 1) = false := decide_eq_false c1
 by_cases c2 : s0_1 < (s0_0.length : Int)
 rotate_left
 ·
  rw [if_neg c2] at h
  have c2b : decide (s0_1 < (s0_0.length : Int)) = false := decide_eq_false c2
  by_cases c4 : IntKind.u64.wrap a1 = 0
  · rw [if_pos c4] at h; exact absurd h (by simp)
  rw [if_neg c4] at h
  simp only [Option.some.injEq, Prod.mk.injEq] at h
  obtain ⟨rfl, rfl, rfl, rfl⟩ := h
  have c4b : (IntKind.u64.wrap a1 == 0) = false := beq_eq_false_iff_ne.mpr c4
  have c4t := eq_false c4
  have L := spec_l01Src_n.set3 (x := .int .u64 (Go.bits .xor .u64 s0_2 (IntKind.u64.wrap (s0_2 * 8192)))) (y := .int .u64 (Go.bits .xor .u64 (Go.bits .xor .u64 s0_2 (IntKind.u64.wrap (s0_2 * 8192))) ((Go.bits .xor .u64 s0_2 (IntKind.u64.wrap (s0_2 * 8192))) / 128)))
   (z := .int .u64 (Go.bits .xor .u64 (Go.bits .xor .u64 (Go.bits .xor .u64 s0_2 (IntKind.u64.wrap (s0_2 * 8192))) ((Go.bits .xor .u64 s0_2 (IntKind.u64.wrap (s0_2 * 8192))) / 128)) (IntKind.u64.wrap ((Go.bits .xor .u64 (Go.bits .xor .u64 s0_2 (IntKind.u64.wrap (s0_2 * 8192))) ((Go.bits .xor .u64 s0_2 (IntKind.u64.wrap (s0_2 * 8192))) / 128)) * 131072)))) hc2
  have HB := Aside0.mk hB
  have Hb := Aside0.mk hb
  have Hr := Aside0.mk hr0
  clear c1 c2 c4 hB hb hr0
  go_enter Tryd.func25, Tryd.ntmps25
  go_wp2
  go_region
  all_goals go_wp2
  all_goals go_region
  all_goals go_wp2
  all_goals go_region
  all_goals go_wp2
  all_goals go_region
  all_goals go_wp2
  all_goals go_ret
  all_goals exact ⟨by (rw [Int.zero_add]; rfl), ⟨A0, c0, blk_put (blk_put (blk_put Hb.out 2 _ rfl) 2 _ rfl) 2 _ rfl, hg, Hr.out⟩, by repeat ((with_reducible first | exact HB.out | apply below_drew1 | refine below_set ?_ hg)), (((KeepBut.refl _ _ _).set_ 2 _).set_ 2 _).set_ 2 _⟩
 rw [if_pos c2] at h
 by_cases c3 : 0 ≤ s0_1
 rotate_left
 · rw [if_neg c3] at h; exact absurd h (by simp)
 rw [if_pos c3] at h
 by_cases c4 : IntKind.u64.wrap a1 = 0
 · rw [if_pos c4] at h; exact absurd h (by simp)
 rw [if_neg c4] at h
 simp only [Option.some.injEq, Prod.mk.injEq] at h
 obtain ⟨rfl, rfl, rfl, rfl⟩ := h
 obtain ⟨ad, rfl, hcell0⟩ := Kd.at_int hr0 s0_1 c3 c2
 have hcell := pw_cell_below hB hcell0
 have c2b : decide (s0_1 < (s0_0.length : Int)) = true := decide_eq_true c2
 have c3b : decide (0 ≤ s0_1) = true := decide_eq_true c3
 have c4b : (IntKind.u64.wrap a1 == 0) = false := beq_eq_false_iff_ne.mpr c4
 have c4t := eq_false c4
 have HB := Aside0.mk hB
 have Hb := Aside0.mk hb
 have Hr := Aside0.mk hr0
 have c3t := eq_true c3
 have c2t := eq_true c2
 clear hcell0 c1 c2 c3 c4 hB hb hr0
 have L3 := spec_l01Src_n.set3q (q := ⟨g, 1, none⟩) (t := .int .i64 (wrap64 (s0_1 + 1))) (x := .int .u64 (Go.bits .xor .u64 s0_2 (IntKind.u64.wrap (s0_2 * 8192)))) (y := .int .u64 (Go.bits .xor .u64 (Go.bits .xor .u64 s0_2 (IntKind.u64.wrap (s0_2 * 8192))) ((Go.bits .xor .u64 s0_2 (IntKind.u64.wrap (s0_2 * 8192))) / 128))) hc2
 have L := spec_l01Src_n.set4 (q := ⟨g, 1, none⟩) (t := .int .i64 (wrap64 (s0_1 + 1))) (x := .int .u64 (Go.bits .xor .u64 s0_2 (IntKind.u64.wrap (s0_2 * 8192)))) (y := .int .u64 (Go.bits .xor .u64 (Go.bits .xor .u64 s0_2 (IntKind.u64.wrap (s0_2 * 8192))) ((Go.bits .xor .u64 s0_2 (IntKind.u64.wrap (s0_2 * 8192))) / 128)))
  (z := .int .u64 (Go.bits .xor .u64 (Go.bits .xor .u64 (Go.bits .xor .u64 s0_2 (IntKind.u64.wrap (s0_2 * 8192))) ((Go.bits .xor .u64 s0_2 (IntKind.u64.wrap (s0_2 * 8192))) / 128)) (IntKind.u64.wrap ((Go.bits .xor .u64 (Go.bits .xor .u64 s0_2 (IntKind.u64.wrap (s0_2 * 8192))) ((Go.bits .xor .u64 s0_2 (IntKind.u64.wrap (s0_2 * 8192))) / 128)) * 131072)))) hc2
 go_enter Tryd.func25, Tryd.ntmps25
 go_wp2
 go_region
 all_goals go_wp2
 all_goals go_region
 all_goals go_wp2
 all_goals go_region
 all_goals go_wp2
 all_goals go_region
 all_goals go_wp2
 all_goals go_region
 all_goals go_wp2
 all_goals go_ret
 all_goals exact ⟨rfl, ⟨_, c0, blk_put (blk_put (blk_put (blk_put Hb.out 1 _ rfl) 2 _ rfl) 2 _ rfl) 2 _ rfl, hg, Hr.out⟩, by repeat ((with_reducible first | exact HB.out | apply below_drew1 | refine below_set ?_ hg)), ((((KeepBut.refl _ _ _).set_ 1 _).set_ 2 _).set_ 2 _).set_ 2 _⟩
/-! ### spec_l01Src_pick: function 21 -/
def spec_l01Src_pick.f (s0_0 : List Int) (s0_1 : Int) (s0_2 : Int) (s0_3 : Int) (l1 : List ByteArray) : Option (ByteArray × Int × Int × Int) := (spec_l01Src_n.f s0_0 s0_1 s0_2 s0_3 (l1.length : Int)).bind fun bt243 => (if 0 ≤ bt243.1 then (if bt243.1 < (l1.length : Int) then (some (rdOf ByteArray.empty l1 bt243.1, bt243.2.1, bt243.2.2.1, bt243.2.2.2)) else (none)) else (none))
set_option maxHeartbeats 8000000 in
set_option maxRecDepth 100000 in
theorem spec_l01Src_pick.calls (g : Nat) (s0_0 : List Int) (s0_1 : Int) (s0_2 : Int) (s0_3 : Int) (A1 : Option Addr) (c1 : Nat) (l1 : List ByteArray) (r1 : ByteArray) (r2 : Int) (r3 : Int) (r4 : Int) (w0 w : World) (hI : IsS60 w0 w g s0_0 s0_1 s0_2 s0_3) (hB : Below w0.heap.size w0 w) (hr1 : Kd.C Kd.string w A1 l1.length l1) (hc1 : l1.length ≤ c1) (hf1 : ∀ ad, A1 = some ad → 0 < l1.length → ad.block ≠ g) (h : spec_l01Src_pick.f s0_0 s0_1 s0_2 s0_3 l1 = some (r1, r2, r3, r4)) :
  Calls Tryd.prog 21 #[.pointer (some ⟨g, 0, none⟩), .slice A1 l1.length c1] w fun e w' => e = .returned (.string r1) ∧ IsS60 w0 w' g s0_0 r2 r3 r4 ∧ Below w0.heap.size w0 w' ∧ KeepBut w w' g none := by
 have HR1 := Aside0.mk hr1
 have HC1 := Aside0.mk hc1
 clear hr1 hc1
 have HI0 := Aside0.mk hI
 have HK := Aside0.mk (KeepBut.refl w g none)
 have HL := Aside0.mk hB.size
 clear hI
 have HW0 := Aside0.mk hB.size
 have HB := Aside0.mk hB
 clear hB
 have H : ((spec_l01Src_n.f s0_0 s0_1 s0_2 s0_3 (l1.length : Int)).bind fun bt243 => (if 0 ≤ bt243.1 then (if bt243.1 < (l1.length : Int) then (some (rdOf ByteArray.empty l1 bt243.1, bt243.2.1, bt243.2.2.1, bt243.2.2.2)) else (none)) else (none))) = some (r1, r2, r3, r4) := h
 clear h
 replace H := Option.bind_eq_some_iff.mp H
 obtain ⟨⟨t243, t244, t245, t246⟩, A30, H⟩ := H
 (try dsimp -simprocs only at H)
 have A3 := Aside0.mk A30
 clear A30
 by_cases c4 : 0 ≤ t243
 rotate_left
 · rw [if_neg c4] at H; exact absurd H (by simp)
 rw [if_pos c4] at H
 have c4b0 := decide_eq_true c4
 clear c4
 by_cases c5 : t243 < (l1.length : Int)
 rotate_left
 · rw [if_neg c5] at H; exact absurd H (by simp)
 rw [if_pos c5] at H
 have c5b0 := decide_eq_true c5
 clear c5
 simp only [Option.some.injEq, Prod.mk.injEq] at H
 obtain ⟨rfl, rfl, rfl, rfl⟩ := H
 go_enter Tryd.func21, Tryd.ntmps21
 go_wp2_with (((with_reducible refine gate_callee (f := 25) rfl ?_); refine goesL_ (some 9) rfl rfl Tryd.func25 (by kernel_rfl) rfl #[.pointer (some ⟨g, 0, none⟩), .int .i64 (l1.length : Int)] rfl zb7_6 ?_; (with_reducible refine (spec_l01Src_n.calls g s0_0 s0_1 s0_2 s0_3 (l1.length : Int) t243 t244 t245 t246 w0 _ ?side1 ?side2 A3.out).mono ?_); (case side1 => repeat ((with_reducible (exact HI0.out)))); (case side2 => repeat ((with_reducible (exact HB.out)))); rintro e w6 ⟨rfl, hi, hb, hk⟩; refine ⟨_, rfl, ?_⟩; replace HK := Aside0.mk (KeepBut.trans (by repeat ((with_reducible (exact HK.out)))) hk (.inl rfl)); replace HB := Aside0.mk (hb); replace HI0 := Aside0.mk (hi); (try clear hb); (try clear hk); (try clear hi); have p247 : 0 ≤ (t243 : Int) := of_decide_eq_true zb10_6; have q247 : t243 < (l1.length : Int) := of_decide_eq_true zb10_6; obtain ⟨ad247, e247, hx247_0⟩ := Kd.at_string HR1.out t243 p247 q247; cases e247; replace hx247_0 := keep_cell HK.out hx247_0 (by (rw [add_block]; exact hf1 _ rfl (by omega))); replace p247 := eq_true p247; replace q247 := eq_true q247))
 go_ret
 exact ⟨by rfl, by repeat ((with_reducible (exact HI0.out))), by repeat ((with_reducible (exact HB.out))), by repeat ((with_reducible (exact HK.out)))⟩
/-! ### spec_l01Src_one: function 28 -/
def spec_l01Src_one.f (s0_0 : List Int) (s0_1 : Int) (s0_2 : Int) (s0_3 : Int) (a1 : Int) : Option (Bool × Int × Int × Int) := (spec_l01Src_n.f s0_0 s0_1 s0_2 s0_3 a1).bind fun bt248 => (some ((bt248.1 == 0), bt248.2.1, bt248.2.2.1, bt248.2.2.2))
set_option maxHeartbeats 8000000 in
set_option maxRecDepth 100000 in
theorem spec_l01Src_one.calls (g : Nat) (s0_0 : List Int) (s0_1 : Int) (s0_2 : Int) (s0_3 : Int) (a1 : Int) (r1 : Bool) (r2 : Int) (r3 : Int) (r4 : Int) (w0 w : World) (hI : IsS60 w0 w g s0_0 s0_1 s0_2 s0_3) (hB : Below w0.heap.size w0 w) (h : spec_l01Src_one.f s0_0 s0_1 s0_2 s0_3 a1 = some (r1, r2, r3, r4)) :
  Calls Tryd.prog 28 #[.pointer (some ⟨g, 0, none⟩), .int .i64 a1] w fun e w' => e = .returned (.bool r1) ∧ IsS60 w0 w' g s0_0 r2 r3 r4 ∧ Below w0.heap.size w0 w' ∧ KeepBut w w' g none := by
 have HI0 := Aside0.mk hI
 have HK := Aside0.mk (KeepBut.refl w g none)
 have HL := Aside0.mk hB.size
 clear hI
 have HW0 := Aside0.mk hB.size
 have HB := Aside0.mk hB
 clear hB
 have H : ((spec_l01Src_n.f s0_0 s0_1 s0_2 s0_3 a1).bind fun bt248 => (some ((bt248.1 == 0), bt248.2.1, bt248.2.2.1, bt248.2.2.2))) = some (r1, r2, r3, r4) := h
 clear h
 replace H := Option.bind_eq_some_iff.mp H
 obtain ⟨⟨t248, t249, t250, t251⟩, A30, H⟩ := H
 (try dsimp -simprocs only at H)
 have A3 := Aside0.mk A30
 clear A30
 simp only [Option.some.injEq, Prod.mk.injEq] at H
 obtain ⟨rfl, rfl, rfl, rfl⟩ := H
 go_enter Tryd.func28, Tryd.ntmps28
 go_wp2_with (((with_reducible refine gate_callee (f := 25) rfl ?_); refine goesL_ (some 7) rfl rfl Tryd.func25 (by kernel_rfl) rfl #[.pointer (some ⟨g, 0, none⟩), .int .i64 a1] rfl zb7_6 ?_; (with_reducible refine (spec_l01Src_n.calls g s0_0 s0_1 s0_2 s0_3 a1 t248 t249 t250 t251 w0 _ ?side1 ?side2 A3.out).mono ?_); (case side1 => repeat ((with_reducible (exact HI0.out)))); (case side2 => repeat ((with_reducible (exact HB.out)))); rintro e w4 ⟨rfl, hi, hb, hk⟩; refine ⟨_, rfl, ?_⟩; replace HK := Aside0.mk (KeepBut.trans (by repeat ((with_reducible (exact HK.out)))) hk (.inl rfl)); replace HB := Aside0.mk (hb); replace HI0 := Aside0.mk (hi); (try clear hb); (try clear hk); (try clear hi)))
 go_ret
 exact ⟨by rfl, by repeat ((with_reducible (exact HI0.out))), by repeat ((with_reducible (exact HB.out))), by repeat ((with_reducible (exact HK.out)))⟩
end Go.Proofs.YtfijkimkdccioaaDoor.QFnDialback
