-- laid by this session's own runner (wip/print2.py): not a printed file
import Derived.Test.YtfijkimkdccioaaDoorQFnDialbackx0
import Derived.Test.YtfijkimkdccioaaDoorQFnDialbackx2
import Derived.Test.YtfijkimkdccioaaDoorQFnDialbackx6
import Derived.Test.YtfijkimkdccioaaDoorQFnDialbackx7
namespace Go.Proofs.YtfijkimkdccioaaDoor.QFnDialback
open Go.RowKit Go.Proofs.YtfijkimkdccioaaDoorW.PrintWords Go.Proofs.YtfijkimkdccioaaDoorW.PrintLast Go.Proofs.YtfijkimkdccioaaDoorW.PrintMore
attribute [local go_sem] max2_int min2_int max_two min_two max_three min_three max_four min_four   -- for this text's walks alone
set_option linter.unusedVariables false
set_option linter.unusedSimpArgs false

abbrev zm0_8 : Array Bool := pm 0 6
abbrev zm1_8 : Array Bool := #[O,I,O,O,O,O]
abbrev zm2_8 : Array Bool := pm 2 4
theorem bcq_8 {w : World} {g t : Nat} {cs : Array Value} {v : Value} (h : w.heap[g]? = some (.cells cs t (0, 0))) (j : Nat) (e : cs[j]? = some v := by rfl) : w.cell? ⟨g, j, none⟩ = some v := (blk_cell h j).trans e
theorem zb0_8 {P : Prop} (h : P := by repeat ((with_reducible first | exact HB.out | apply pw_below_drewN))) : P := h
theorem zb1_8 {P : Prop} (h : P := by rw [hg]; exact (below_size (by repeat ((with_reducible (exact HB.out)))))) : P := h
theorem zb2_8 {P : Prop} (h : P := by (try simp only [List.map_toArray, List.map_cons, List.map_nil]); rfl) : P := h
theorem zb3_8 {P : Prop} (h : P := by exact BK327.out) : P := h
theorem zb4_8 {P : Prop} (h : P := by repeat ((with_reducible (exact HB.out)))) : P := h
theorem zb5_8 {P : Prop} (h : P := by exact HO337.out) : P := h
theorem zb6_8 {P : Prop} (h : P := by (with_reducible assumption)) : P := h
theorem zb7_8 {P : Prop} (h : P := by exact BK358.out) : P := h
theorem zb8_8 {P : Prop} (h : P := by repeat ((with_reducible (exact HB.out)))) : P := h
theorem zk0_8 {P : Prop} (h : P := by exact ⟨(blk_cell BK341.out 0).trans rfl, (blk_cell BK341.out 1).trans rfl, (blk_cell BK341.out 2).trans rfl⟩) : P := h
/-! ### spec_DrawDbOpen: function 4 -/
def spec_DrawDbOpen.f (k : Nat) (l0 : List Int) : Option (ByteArray × Int × (List (S43)) × ByteArray) := (spec_l01Source.f k l0).bind fun bt328 => ((spec_l01Src_l06Dialback.f k bt328.1 bt328.2.1 bt328.2.2.1 bt328.2.2.2).bind fun bt333 => ((spec_l01Src_pick.f bt328.1 bt333.2.2.2.1 bt333.2.2.2.2.1 bt333.2.2.2.2.2 (([(⟨#[98]⟩ : ByteArray), (⟨#[120, 46, 121]⟩ : ByteArray), (⟨#[65]⟩ : ByteArray)] : List ByteArray))).bind fun bt345 => (some (bt333.1, bt333.2.1, bt333.2.2.1, bt345.1))))
theorem spec_DrawDbOpen.mono : ∀ a0 k, LeO (spec_DrawDbOpen.f k a0) (spec_DrawDbOpen.f (k + 1) a0) := by
 intro a0 k
 unfold spec_DrawDbOpen.f
 repeat' first
   | (with_reducible exact spec_l01Source.mono _ _)
   | (with_reducible exact spec_l01Src_l06Dialback.mono _ _ _ _ _)
   | (with_reducible exact LeO.refl _)
   | (with_reducible exact LeO.none _)
   | (with_reducible refine LeO.ite ?_ ?_)
   | (with_reducible refine LeO.bind ?_ (fun _ => ?_))
   | exact spec_l01Source.mono _ _
   | exact spec_l01Src_l06Dialback.mono _ _ _ _ _
   | exact LeO.none _
   | refine LeO.ite ?_ ?_
   | refine LeO.bind ?_ (fun _ => ?_)
set_option maxHeartbeats 8000000 in
set_option maxRecDepth 100000 in
theorem spec_DrawDbOpen.calls (k : Nat) (A0 : Option Addr) (c0 : Nat) (l0 : List Int) (r1 : ByteArray) (r2 : Int) (r3 : List (S43)) (r4 : ByteArray) (w : World) (hr0 : Kd.C (Kd.int .u8) w A0 l0.length l0) (hc0 : l0.length ≤ c0) (h : spec_DrawDbOpen.f k l0 = some (r1, r2, r3, r4)) :
  Calls Tryd.prog 4 #[.slice A0 l0.length c0] w fun e w' => ∃ v2_ : Value, e = .returned (.tuple #[.agg #[.string r1, .int .i64 r2, v2_], .string r4]) ∧ Kd.R k43 43 w' w.heap.size (fun _ => True) v2_ r3 ∧ Below w.heap.size w w' := by
 have hu25 := Tryd.underlying25
 have HR0 := Aside0.mk hr0
 have HC0 := Aside0.mk hc0
 clear hr0 hc0
 have HB := Aside0.mk (Below.refl w.heap.size w)
 have H : ((spec_l01Source.f k l0).bind fun bt328 => ((spec_l01Src_l06Dialback.f k bt328.1 bt328.2.1 bt328.2.2.1 bt328.2.2.2).bind fun bt333 => ((spec_l01Src_pick.f bt328.1 bt333.2.2.2.1 bt333.2.2.2.2.1 bt333.2.2.2.2.2 (([(⟨#[98]⟩ : ByteArray), (⟨#[120, 46, 121]⟩ : ByteArray), (⟨#[65]⟩ : ByteArray)] : List ByteArray))).bind fun bt345 => (some (bt333.1, bt333.2.1, bt333.2.2.1, bt345.1))))) = some (r1, r2, r3, r4) := h
 clear h
 replace H := Option.bind_eq_some_iff.mp H
 obtain ⟨⟨t328, t329, t330, t331⟩, A20, H⟩ := H
 (try dsimp -simprocs only at H)
 have A2 := Aside0.mk A20
 clear A20
 replace H := Option.bind_eq_some_iff.mp H
 obtain ⟨⟨t333, t334, t335, t338, t339, t340⟩, A30, H⟩ := H
 (try dsimp -simprocs only at H)
 have A3 := Aside0.mk A30
 clear A30
 obtain ⟨y342, hy342⟩ : ∃ y_ : List ByteArray, y_ = (([(⟨#[98]⟩ : ByteArray), (⟨#[120, 46, 121]⟩ : ByteArray), (⟨#[65]⟩ : ByteArray)] : List ByteArray)) := ⟨_, rfl⟩
 replace H : ((spec_l01Src_pick.f t328 t338 t339 t340 y342).bind fun bt345 => (some (t333, t334, t335, bt345.1))) = some (r1, r2, r3, r4) := by (rw [hy342]; with_reducible exact H)
 have Ny342 := Aside0.mk hy342
 clear hy342
 replace H := Option.bind_eq_some_iff.mp H
 obtain ⟨⟨t345, t346, t347, t348⟩, A40, H⟩ := H
 (try dsimp -simprocs only at H)
 have A4 := Aside0.mk A40
 clear A40
 simp only [Option.some.injEq, Prod.mk.injEq] at H
 obtain ⟨rfl, rfl, rfl, rfl⟩ := H
 go_enter Tryd.func4, Tryd.ntmps4
 try go_wp2_with (first | ((with_reducible refine gate_dst (N := 2) rfl ?_); refine box_event ?hg (N := 2) ?hd (cs := #[.string (⟨#[]⟩ : ByteArray), .int .i64 0, .slice none 0 0]) (t := 25) ?hr ?_; (case hd => rfl); (case hg => rfl); (case hr => (go_simp; done)); intro gb327 hg w5 hbox hb; have BK327 := Aside0.mk (hbox); have GW327 := Aside0.mk ((zb1_8 : w.heap.size ≤ gb327)); have GE327 := GW327; replace HB := Aside0.mk (below_step zb0_8 hb); clear hb hbox hg) | ((with_reducible refine gate_callee (f := 19) rfl ?_); refine goesL_ (some 7) rfl rfl Tryd.func19 (by kernel_rfl) rfl #[.slice A0 l0.length c0] rfl zb2_8 ?_; (with_reducible refine (spec_l01Source.calls k _ _ l0 t328 t329 t330 t331 w _ ?side1 ?side2 ?side3 A2.out).mono ?_); (case side1 => repeat ((with_reducible (exact HB.out)))); (case side2 => exact HR0.out); (case side3 => exact HC0.out); rintro e w6 ⟨g332, rfl, hi, hb, hb2⟩; refine ⟨_, rfl, ?_⟩; replace HB := Aside0.mk (hb); have HI332 := Aside0.mk (hi); have NB332_327 := Aside0.mk (IsS60.ne_blk hi (blk_below (g := gb327) (o := .cells #[.string (⟨#[]⟩ : ByteArray), .int .i64 0, .slice none 0 0] 25 (0, 0)) zb3_8 hb2) (by decide)); have NB327_332 := Aside0.mk (Ne.symm (IsS60.ne_blk hi (blk_below (g := gb327) (o := .cells #[.string (⟨#[]⟩ : ByteArray), .int .i64 0, .slice none 0 0] 25 (0, 0)) zb3_8 hb2) (by decide))); replace BK327 := Aside0.mk (blk_below (g := gb327) (o := .cells #[.string (⟨#[]⟩ : ByteArray), .int .i64 0, .slice none 0 0] 25 (0, 0)) zb3_8 hb2); (try clear hb); (try clear hb2); (try clear hi)) | ((with_reducible refine gate_callee (f := 20) rfl ?_); refine goesL_ (some 9) rfl rfl Tryd.func20 (by kernel_rfl) rfl #[.pointer (some ⟨g332, 0, none⟩)] rfl zb2_8 ?_; (with_reducible refine (spec_l01Src_l06Dialback.calls k g332 t328 t329 t330 t331 t333 t334 t335 t338 t339 t340 w _ ?side1 ?side2 A3.out).mono ?_); (case side1 => repeat ((with_reducible (exact HI332.out)))); (case side2 => repeat ((with_reducible (exact HB.out)))); rintro e w7 ⟨v336, rfl, ho0, hi, hb, hk⟩; refine ⟨_, rfl, ?_⟩; replace BK327 := Aside0.mk (KeepBut.blk hk (g' := gb327) (o := .cells #[.string (⟨#[]⟩ : ByteArray), .int .i64 0, .slice none 0 0] 25 (0, 0)) zb3_8 NB327_332.out (by simp)); have HO337 := Aside0.mk (Kd.R_lower ho0 (below_size zb4_8)); replace HB := Aside0.mk (hb); replace HI332 := Aside0.mk (hi); (try clear hb); (try clear hk); (try clear hi); (try clear ho0)) | ((with_reducible refine gate_dst (N := 5) rfl ?_); refine box_event ?hg (N := 5) ?hd (cs := #[.string (⟨#[]⟩ : ByteArray), .int .i64 0, .slice none 0 0]) (t := 25) ?hr ?_; (case hd => rfl); (case hg => rfl); (case hr => (go_simp; done)); intro gb341 hg w8 hbox hb; replace HO337 := Aside0.mk (Kd.R_below zb5_8 hb); have BK341 := Aside0.mk (hbox); have GW341 := Aside0.mk ((by rw [hg]; exact (below_size zb4_8) : w.heap.size ≤ gb341)); have GE341 := Aside0.mk ((by rw [hg]; exact (below_size zb4_8) : w.heap.size ≤ gb341)); replace HB := Aside0.mk (below_step zb4_8 hb); have NB327_341 := Aside0.mk ((by rw [hg]; exact Nat.ne_of_lt (blk_lt (g := gb327) (o := .cells #[.string (⟨#[]⟩ : ByteArray), .int .i64 0, .slice none 0 0] 25 (0, 0)) zb3_8) : gb327 ≠ gb341)); have NB341_327 := Aside0.mk ((by rw [hg]; exact Nat.ne_of_gt (blk_lt (g := gb327) (o := .cells #[.string (⟨#[]⟩ : ByteArray), .int .i64 0, .slice none 0 0] 25 (0, 0)) zb3_8) : gb341 ≠ gb327)); replace BK327 := bkb BK327 hb; have NB332_341 := Aside0.mk ((by rw [hg]; exact Nat.ne_of_lt (IsS60.lt (show IsS60 w _ g332 t328 t338 t339 t340 from by repeat ((with_reducible (exact HI332.out))))) : g332 ≠ gb341)); have NB341_332 := Aside0.mk ((by rw [hg]; exact Nat.ne_of_gt (IsS60.lt (show IsS60 w _ g332 t328 t338 t339 t340 from by repeat ((with_reducible (exact HI332.out))))) : gb341 ≠ g332)); replace HI332 := Aside0.mk (IsS60.below (by repeat ((with_reducible (exact HI332.out)))) hb); clear hb hbox hg; have hnb9 := NB341_327.out; have hnc9 := NB327_341.out; have hnb10 := NB341_332.out; have hnc10 := NB332_341.out; obtain ⟨z0, z1, z2, z3, z4, z5⟩ := bz3 BK341.out; obtain ⟨Ao12, co12, eo12⟩ := Kd.R_slice HO337.out; subst eo12))
 obtain ⟨w13, hq_⟩ : ∃ W_, W_ = (((w8.setCell ⟨gb341, 0, none⟩ (.string t333)).setCell ⟨gb341, 1, none⟩ (.int .i64 t334)).setCell ⟨gb341, 2, none⟩ (.slice Ao12 t335.length co12)) := ⟨_, rfl⟩
 rw [← hq_]
 have n0_ : Aside0 (Kd.R k43 43 w13 w.heap.size (fun _ => True) (.slice Ao12 t335.length co12) t335) := ⟨by rw [hq_]; exact Kd.R_mono (rfa (rfa (rfa (Kd.R_types HO337.out BK341.out (by decide)) (fun _ h => h.2)) (fun _ h => h.2)) (fun _ h => h.2)) (fun _ hk => trivial)⟩
 have n1_ : Aside0 (w13.heap[gb327]? = some (.cells #[.string (⟨#[]⟩ : ByteArray), .int .i64 0, .slice none 0 0] 25 (0, 0))) := ⟨by rw [hq_]; refine blk_far ?_ NB327_341.out _; refine blk_far ?_ NB327_341.out _; refine blk_far ?_ NB327_341.out _; exact BK327.out⟩
 have n2_ : Aside0 (w13.heap[gb341]? = some (.cells #[.string t333, .int .i64 t334, .slice Ao12 t335.length co12] 25 (0, 0))) := ⟨by rw [hq_]; apply bp3; exact BK341.out⟩
 have n3_ : Aside0 (IsS60 w w13 g332 t328 t338 t339 t340) := ⟨by rw [hq_]; repeat ((with_reducible first | exact HI332.out | refine IsS60.far ?_ NB332_341.out _))⟩
 have n4_ : Aside0 (Below w.heap.size w w13) := ⟨by rw [hq_]; repeat ((with_reducible first | exact HB.out | refine below_set ?_ GE341.out))⟩
 (try clear HO337)
 (try clear BK327)
 (try clear BK341)
 (try clear HI332)
 (try clear HB)
 clear hq_
 have HO337 := n0_
 have BK327 := n1_
 have BK341 := n2_
 have HI332 := n3_
 have HB := n4_
 clear n0_ n1_ n2_ n3_ n4_
 replace HO337 := Aside0.mk (Kd.R_drew HO337.out)
 replace BK327 := Aside0.mk (blk_drew BK327.out)
 replace BK341 := Aside0.mk (blk_drew BK341.out)
 replace HI332 := Aside0.mk (IsS60.drew HI332.out)
 replace HB := Aside0.mk (below_drew1 HB.out)
 refine start_ (n := 6) (S := fun w' => w'.cell? ⟨gb341, 0, none⟩ = some (.string t333) ∧ w'.cell? ⟨gb341, 1, none⟩ = some (.int .i64 t334) ∧ w'.cell? ⟨gb341, 2, none⟩ = some (.slice Ao12 t335.length co12)) (ds := []) zm0_8 (by kernel_rfl) rfl rfl ⟨(blk_cell BK341.out 0).trans rfl, (blk_cell BK341.out 1).trans rfl, (blk_cell BK341.out 2).trans rfl⟩ (fun hHeld => ?_)
 generalize w13.drew = w14 at HO337 BK327 BK341 HI332 HB hHeld ⊢
 refine pure_ (i := 1) (N := some 11) (v := ?_) (a' := ?_) zm1_8 rfl rfl (by kernel_rfl) (fun _ _ _ h => h) (Or.inl ⟨by rfl, ?_⟩) ?_ ?_
 rotate_left
 · intro w'; go_simp; with_reducible rfl
 rotate_left
 · simp only [Act.put, List.setIfInBounds_toArray, List.set_cons_zero, List.set_cons_succ, i64_w, i32_w]; rfl
 refine take_ (i := 0) (N := some 10) (v := ?_) (a' := ?_) zm2_8 rfl rfl (by kernel_rfl) (fun _ _ _ h => h) (Or.inl ⟨by rfl, ?_⟩) hHeld ?_ ?_
 rotate_left
 · rintro w' ⟨s0, s1, s2⟩; go_simp; with_reducible rfl
 rotate_left
 · simp only [Act.put, List.setIfInBounds_toArray, List.set_cons_zero, List.set_cons_succ, i64_w, i32_w]; rfl
 refine one_ (i := 2) (N := some 12) #[true, true, true, false, false, false] rfl rfl (by kernel_rfl) (by decide) (fun K hK => ?_)
 refine Kd.R_lit_step Kd.string _ 9 ?hg (N := 12) ?hd (xs := ([(⟨#[98]⟩ : ByteArray), (⟨#[120, 46, 121]⟩ : ByteArray), (⟨#[65]⟩ : ByteArray)] : List ByteArray)) (inner := [.string (⟨#[98]⟩ : ByteArray), .string (⟨#[120, 46, 121]⟩ : ByteArray), .string (⟨#[65]⟩ : ByteArray)]) (ok := fun _ => True) (okp := fun _ => True) ?hr ?hp (fun _ hk => hk) trivial (Below.refl _ _) (Nat.le_refl _) (by simp) ?_; (case hd => rfl); (case hg => rfl); (case hr => (go_simp; done)); (case hp => exact (Reps.one (show Kd.M Kd.string _ _ _ (⟨#[98]⟩ : ByteArray) [.string (⟨#[98]⟩ : ByteArray)] from rfl) (Reps.one (show Kd.M Kd.string _ _ _ (⟨#[120, 46, 121]⟩ : ByteArray) [.string (⟨#[120, 46, 121]⟩ : ByteArray)] from rfl) (Reps.one (show Kd.M Kd.string _ _ _ (⟨#[65]⟩ : ByteArray) [.string (⟨#[65]⟩ : ByteArray)] from rfl) (Reps.none _ _)))))
 intro v343 w15 ho16 hb hg_ hnew_
 clear hg_ hnew_
 ((rw [← Ny342.out] at ho16))
 replace HO337 := Aside0.mk (Kd.R_below zb5_8 hb)
 have HO344 := Aside0.mk (Kd.R_lower ho16 (below_size (by repeat ((with_reducible (exact HB.out))))))
 replace BK327 := bkb BK327 hb
 replace HI332 := Aside0.mk (IsS60.below (by repeat ((with_reducible (exact HI332.out)))) hb)
 replace BK341 := bkb BK341 hb
 replace HB := Aside0.mk (below_step (by repeat ((with_reducible (exact HB.out)))) hb)
 clear hb ho16
 obtain ⟨Ao17, co17, eo17⟩ := Kd.R_slice HO344.out
 ((subst eo17))
 refine hK.out _ _ zk0_8 (fun hHeld => ?_)
 clear hK K
 refine zn (some 12) ?_
 refine one_ (i := 3) (N := some 13) #[true, true, true, true, false, false] rfl rfl (by kernel_rfl) (by decide) (fun K hK => ?_)
 refine goes_ Tryd.func21 (by kernel_rfl) rfl #[.pointer (some ⟨g332, 0, none⟩), .slice Ao17 y342.length co17] (by rfl) rfl rfl zb2_8 ?_
 with_reducible refine (spec_l01Src_pick.calls g332 t328 t338 t339 t340 _ _ y342 t345 t346 t347 t348 w _ ?side1 ?side2 ?side3 ?side4 ?side5 A4.out).mono ?_
 (case side1 => repeat ((with_reducible (exact HI332.out))))
 (case side2 => repeat ((with_reducible (exact HB.out))))
 (case side3 => repeat ((exact (Kd.R_reads' HO344.out).2.2)))
 (case side4 => exact (Kd.R_reads' HO344.out).2.1)
 (case side5 => exact far_slice (IsS60.own_ne HI332.out HO344.out (by decide)))
 rintro e w18 ⟨rfl, hi, hb, hk⟩
 refine ⟨_, rfl, ?_⟩
 replace BK327 := Aside0.mk (KeepBut.blk hk (g' := gb327) (o := .cells #[.string (⟨#[]⟩ : ByteArray), .int .i64 0, .slice none 0 0] 25 (0, 0)) zb3_8 NB327_332.out (by simp))
 replace HO337 := Aside0.mk (Kd.R_mono (Kd.R_keep (IsS60.apart (show IsS60 w _ g332 t328 t338 t339 t340 from by repeat ((with_reducible (exact HI332.out)))) zb5_8 (by decide)) hk (fun _ h => h.2)) (fun _ h => h.1))
 replace BK341 := Aside0.mk (KeepBut.blk hk (g' := gb341) (o := .cells #[.string t333, .int .i64 t334, .slice Ao12 t335.length co12] 25 (0, 0)) (by exact BK341.out) NB341_332.out (by simp))
 replace HB := Aside0.mk (hb)
 (try clear hb)
 (try clear hk)
 (try clear hi)
 refine hK.out _ _ zk0_8 (fun hHeld => ?_)
 clear hK K
 refine zn (some 13) ?_
 refine one_ (i := 4) (N := none) #[true, true, true, true, true, false] rfl rfl (by kernel_rfl) (by decide) (fun K hK => ?_)
 have hs19 : w18.cell? ⟨gb327, 0, none⟩ = some (.string (⟨#[]⟩ : ByteArray)) := (blk_cell BK327.out 0).trans rfl
 have hfs19 := blk_frozen BK327.out 0
 have hns19_1 := NB341_327.out
 have hms19_1 := NB327_341.out
 have hs20 : w18.cell? ⟨gb327, 1, none⟩ = some (.int .i64 0) := (blk_cell BK327.out 1).trans rfl
 have hfs20 := blk_frozen BK327.out 1
 have hns20_1 := NB341_327.out
 have hms20_1 := NB327_341.out
 have hs21 : w18.cell? ⟨gb327, 2, none⟩ = some (.slice none 0 0) := (blk_cell BK327.out 2).trans rfl
 have hfs21 := blk_frozen BK327.out 2
 have hns21_1 := NB341_327.out
 have hms21_1 := NB327_341.out
 refine skip_ (w1 := ?_) (by rfl) rfl ?_ ?_
 rotate_left
 · go_simp; rfl
 refine hK.out _ _ ⟨((cell_far (p := ⟨gb327, _, none⟩) NB341_327.out _).trans (((cell_far (p := ⟨gb327, _, none⟩) NB341_327.out _).trans (((cell_far (p := ⟨gb327, _, none⟩) NB341_327.out _).trans (hHeld.1)))))), ((cell_far (p := ⟨gb327, _, none⟩) NB341_327.out _).trans (((cell_far (p := ⟨gb327, _, none⟩) NB341_327.out _).trans (((cell_far (p := ⟨gb327, _, none⟩) NB341_327.out _).trans (hHeld.2.1)))))), ((cell_far (p := ⟨gb327, _, none⟩) NB341_327.out _).trans (((cell_far (p := ⟨gb327, _, none⟩) NB341_327.out _).trans (((cell_far (p := ⟨gb327, _, none⟩) NB341_327.out _).trans (hHeld.2.2))))))⟩ (fun hHeld => ?_)
 clear hK K
 refine pure_ (i := 5) (N := some 3) (v := ?_) (a' := ?_) #[true, true, true, true, true, true] rfl rfl (by kernel_rfl) (fun _ _ _ h => h) (Or.inl ⟨by rfl, ?_⟩) ?_ ?_
 rotate_left
 · intro w'; go_simp; with_reducible rfl
 rotate_left
 · simp only [Act.put, List.setIfInBounds_toArray, List.set_cons_zero, List.set_cons_succ, i64_w, i32_w]; rfl
 refine done_ (by kernel_rfl) ?_
 try go_wp2
 refine bodyPost_ret (results_ct rfl _ _ gb327 25 #[.string t333, .int .i64 t334, .slice Ao12 t335.length co12] (0, 0) _ rfl (by apply bp3; exact BK327.out) Tryd.underlying25 rfl (by kernel_rfl)) rfl ?_
 exact ⟨_, by rfl, by exact Kd.R_mono (rfa (rfa (rfa (Kd.R_types HO337.out BK327.out (by decide)) (fun _ h => h.2)) (fun _ h => h.2)) (fun _ h => h.2)) (fun _ hk => trivial), by repeat ((with_reducible first | exact HB.out | refine below_set ?_ GE327.out))⟩
/-! ### strings_Cut: function 40: by the library's contract (it reads bytealg.MaxLen) -/
def strings_Cut.f (a0 : ByteArray) (a1 : ByteArray) : Option (ByteArray × ByteArray × Bool) := if a0.size < 4294967281 then some (⟨(Lib.cut a0.data.toList a1.data.toList).1.toArray⟩, ⟨(Lib.cut a0.data.toList a1.data.toList).2.1.toArray⟩, (Lib.cut a0.data.toList a1.data.toList).2.2) else none
theorem strings_Cut.calls (a0 : ByteArray) (a1 : ByteArray) (r0 : ByteArray) (r1 : ByteArray) (r2 : Bool) (w : World) (h : strings_Cut.f a0 a1 = some (r0, r1, r2)) (hmx : MaxIs w) :
  Calls Tryd.prog 40 #[.string a0, .string a1] w fun e w' => e = .returned (.tuple #[.string r0, .string r1, .bool r2]) ∧ Drawn0 w w' := by
 unfold strings_Cut.f at h
 by_cases h0 : a0.size < 4294967281
 rotate_left
 · rw [if_neg h0] at h; exact absurd h (by simp)
 rw [if_pos h0] at h
 have hr := Option.some.inj h
 obtain ⟨m, hm⟩ := hmx.num
 have hcon := Any.strings_Cut Tryd.lays145 a0 a1 m w h0 hm
 change Calls Tryd.prog 40 _ _ (fun e w' => e = .returned (.tuple #[.string ⟨(Lib.cut a0.data.toList a1.data.toList).1.toArray⟩, .string ⟨(Lib.cut a0.data.toList a1.data.toList).2.1.toArray⟩, .bool (Lib.cut a0.data.toList a1.data.toList).2.2]) ∧ ∃ n, w' = w.drewN n) at hcon
 simp only [Prod.mk.injEq] at hr
 obtain ⟨e0, e1, e2⟩ := hr
 rw [e0, e1, e2] at hcon
 refine hcon.mono ?_
 rintro e w' ⟨rfl, hn⟩
 exact ⟨rfl, ⟨hn⟩⟩
/-! ### strings_Trim: function 50: by the library's contract, at an ASCII set of signs -/
def strings_Trim.f (a0 : ByteArray) (a1 : ByteArray) : Option (ByteArray) := if a0.size ≤ 9223372036854775807 then (if a1.size < 4294967281 then (if (a1.data.toList.all fun b => decide (b.toNat < 128)) = true then some ⟨(Lib.trimS a0.data.toList a1.data.toList).toArray⟩ else none) else none) else none
theorem strings_Trim.calls (a0 : ByteArray) (a1 : ByteArray) (r : ByteArray) (w : World) (h : strings_Trim.f a0 a1 = some r) :
  Calls Tryd.prog 50 #[.string a0, .string a1] w fun e w' => e = .returned (.string r) ∧ Below w.heap.size w w' := by
 unfold strings_Trim.f at h
 by_cases h0 : a0.size ≤ 9223372036854775807
 rotate_left
 · rw [if_neg h0] at h; exact absurd h (by simp)
 by_cases h1 : a1.size < 4294967281
 rotate_left
 · rw [if_pos h0, if_neg h1] at h; exact absurd h (by simp)
 by_cases h2 : (a1.data.toList.all fun b => decide (b.toNat < 128)) = true
 rotate_left
 · rw [if_pos h0, if_pos h1, if_neg h2] at h; exact absurd h (by simp)
 rw [if_pos h0, if_pos h1, if_pos h2] at h
 have hr := Option.some.inj h
 have hcon := Any.strings_Trim_laid Tryd.lays160 (by kernel_rfl) a0 a1 w h0 h1 (fun j b hj => by
  have := List.all_eq_true.1 h2 b (List.mem_of_getElem? hj)
  exact of_decide_eq_true this)
 change Calls Tryd.prog 50 _ _ (fun e w' => e = .returned (.string ⟨(Lib.trimS a0.data.toList a1.data.toList).toArray⟩) ∧ Below w.heap.size w w') at hcon
 rw [hr] at hcon
 exact hcon
/-! ### impl_only: function 49 -/
def impl_only.f (a0 : ByteArray) (a1 : ByteArray) : Option (Bool) := (strings_Trim.f a0 a1).bind fun t349 => (some (t349.toList == ([] : List UInt8)))
set_option maxHeartbeats 8000000 in
set_option maxRecDepth 100000 in
theorem impl_only.calls (a0 : ByteArray) (a1 : ByteArray) (r : Bool) (w : World) (h : impl_only.f a0 a1 = some r) :
  Calls Tryd.prog 49 #[.string a0, .string a1] w fun e w' => e = .returned (.bool r) ∧ Below w.heap.size w w' := by
 have HB := Aside0.mk (Below.refl w.heap.size w)
 have H : ((strings_Trim.f a0 a1).bind fun t349 => (some (t349.toList == ([] : List UInt8)))) = some r := h
 clear h
 replace H := Option.bind_eq_some_iff.mp H
 obtain ⟨t349, A30, H⟩ := H
 (try dsimp -simprocs only at H)
 have A3 := Aside0.mk A30
 clear A30
 obtain rfl := Option.some.inj H
 go_enter Tryd.func49, Tryd.ntmps49
 go_wp2_with (((with_reducible refine gate_callee (f := 50) rfl ?_); refine goesL_ (some 7) rfl rfl Tryd.func50 (by kernel_rfl) rfl #[.string a0, .string a1] rfl zb2_8 ?_; (with_reducible refine (strings_Trim.calls a0 a1 t349 _ A3.out).mono ?_); rintro e w4 ⟨rfl, hb⟩; refine ⟨_, rfl, ?_⟩; replace HB := Aside0.mk (below_step zb0_8 hb); (try clear hb)))
 go_ret
 exact ⟨by rfl, by repeat ((with_reducible (exact HB.out)))⟩
/-! ### impl_isLocal: function 45 -/
def impl_isLocal.f (a0 : ByteArray) : Option (Bool) := if (a0.size : Int) ≤ 30 then ((impl_only.f a0 (⟨#[97, 98, 99, 100, 101, 102, 103, 104, 105, 106, 107, 108, 109, 110, 111, 112, 113, 114, 115, 116, 117, 118, 119, 120, 121, 122, 48, 49, 50, 51, 52, 53, 54, 55, 56, 57, 46, 95, 45]⟩ : ByteArray)).bind fun t350 => (some t350)) else (some false)
set_option maxHeartbeats 8000000 in
set_option maxRecDepth 100000 in
theorem impl_isLocal.calls (a0 : ByteArray) (r : Bool) (w : World) (h : impl_isLocal.f a0 = some r) :
  Calls Tryd.prog 45 #[.string a0] w fun e w' => e = .returned (.bool r) ∧ Below w.heap.size w w' := by
 have HB := Aside0.mk (Below.refl w.heap.size w)
 have H : (if (a0.size : Int) ≤ 30 then ((impl_only.f a0 (⟨#[97, 98, 99, 100, 101, 102, 103, 104, 105, 106, 107, 108, 109, 110, 111, 112, 113, 114, 115, 116, 117, 118, 119, 120, 121, 122, 48, 49, 50, 51, 52, 53, 54, 55, 56, 57, 46, 95, 45]⟩ : ByteArray)).bind fun t350 => (some t350)) else (some false)) = some r := h
 clear h
 go_enter Tryd.func45, Tryd.ntmps45
 by_cases c2 : (a0.size : Int) ≤ 30
 rotate_left
 ·
  rw [if_neg c2] at H
  have c2b0 := decide_eq_false c2
  have c2b1 : decide (a0.size ≤ 30) = false := decide_eq_false (by omega)
  clear c2
  obtain rfl := Option.some.inj H
  (try rw [c2b0])
  (try rw [c2b1])
  go_wp2
  go_ret
  exact ⟨by rfl, by repeat ((with_reducible (exact HB.out)))⟩
 rw [if_pos c2] at H
 have c2b0 := decide_eq_true c2
 have c2b1 : decide (a0.size ≤ 30) = true := decide_eq_true (by omega)
 clear c2
 replace H := Option.bind_eq_some_iff.mp H
 obtain ⟨t350, A30, H⟩ := H
 replace H : (some t350) = some r := H
 have A3 := Aside0.mk A30
 clear A30
 obtain rfl := Option.some.inj H
 (try rw [c2b0])
 (try rw [c2b1])
 go_wp2_with ((go_at_call 49; (with_reducible refine (impl_only.calls a0 (⟨#[97, 98, 99, 100, 101, 102, 103, 104, 105, 106, 107, 108, 109, 110, 111, 112, 113, 114, 115, 116, 117, 118, 119, 120, 121, 122, 48, 49, 50, 51, 52, 53, 54, 55, 56, 57, 46, 95, 45]⟩ : ByteArray) t350 _ A3.out).mono ?_); rintro e w4 ⟨rfl, hb⟩; replace HB := Aside0.mk (below_step zb0_8 hb); (try clear hb)))
 go_ret
 exact ⟨by rfl, by repeat ((with_reducible (exact HB.out)))⟩
/-! ### impl_in: function 27 -/
def impl_in.f (a0 : Int) (a1 : Int) (a2 : Int) : Option (Bool) := if a0 ≥ a1 then (some (decide (a0 ≤ a2))) else (some false)
set_option maxHeartbeats 8000000 in
set_option maxRecDepth 100000 in
theorem impl_in.calls (a0 : Int) (a1 : Int) (a2 : Int) (r : Bool) (w : World) (h : impl_in.f a0 a1 a2 = some r) :
  Calls Tryd.prog 27 #[.int .i64 a0, .int .i64 a1, .int .i64 a2] w fun e w' => e = .returned (.bool r) ∧ Drawn0 w w' := by
 have H : (if a0 ≥ a1 then (some (decide (a0 ≤ a2))) else (some false)) = some r := h
 clear h
 go_enter Tryd.func27, Tryd.ntmps27
 by_cases c4 : a0 ≥ a1
 · rw [if_pos c4] at H; have c4b0 : decide (a1 ≤ a0) = true := decide_eq_true c4; clear c4; obtain rfl := Option.some.inj H; (try rw [c4b0]); go_wp2; go_ret; exact ⟨by rfl, by repeat ((exact Drawn0.refl _))⟩
 rw [if_neg c4] at H
 have c4b0 : decide (a1 ≤ a0) = false := decide_eq_false c4
 clear c4
 obtain rfl := Option.some.inj H
 (try rw [c4b0])
 go_wp2
 go_ret
 exact ⟨by rfl, by repeat ((exact Drawn0.refl _))⟩
/-! ### strings_Contains: function 51: by the library's contract (it reads bytealg.MaxLen) -/
def strings_Contains.f (a0 : ByteArray) (a1 : ByteArray) : Option (Bool) := if a0.size < 4294967281 then some (Lib.contains a0.data.toList a1.data.toList) else none
theorem strings_Contains.calls (a0 : ByteArray) (a1 : ByteArray) (r : Bool) (w : World) (h : strings_Contains.f a0 a1 = some r) (hmx : MaxIs w) :
  Calls Tryd.prog 51 #[.string a0, .string a1] w fun e w' => e = .returned (.bool r) ∧ Drawn0 w w' := by
 unfold strings_Contains.f at h
 by_cases h0 : a0.size < 4294967281
 rotate_left
 · rw [if_neg h0] at h; exact absurd h (by simp)
 rw [if_pos h0] at h
 have hr := Option.some.inj h
 obtain ⟨m, hm⟩ := hmx.num
 have hcon := Any.strings_Contains Tryd.lays144 a0 a1 m w h0 hm
 change Calls Tryd.prog 51 _ _ (fun e w' => e = .returned (.bool (Lib.contains a0.data.toList a1.data.toList)) ∧ w' = w) at hcon
 refine hcon.mono ?_
 rintro e w' ⟨rfl, rfl⟩
 exact ⟨by rw [hr], Drawn0.refl _⟩
/-! ### impl_isDomainPart: function 46 -/
def impl_isDomainPart.f (a0 : ByteArray) : Option (Bool) := (impl_in.f (a0.size : Int) 1 30).bind fun t351 => (if t351 = true then ((impl_only.f a0 (⟨#[97, 98, 99, 100, 101, 102, 103, 104, 105, 106, 107, 108, 109, 110, 111, 112, 113, 114, 115, 116, 117, 118, 119, 120, 121, 122, 48, 49, 50, 51, 52, 53, 54, 55, 56, 57, 46, 45]⟩ : ByteArray)).bind fun t352 => (if t352 = true then ((strings_Trim.f a0 (⟨#[46, 45]⟩ : ByteArray)).bind fun t353 => (if t353.toList = a0.toList then ((strings_Contains.f a0 (⟨#[46, 46]⟩ : ByteArray)).bind fun t354 => (some (!t354))) else (some false))) else (some false))) else (some false))
set_option maxHeartbeats 8000000 in
set_option maxRecDepth 100000 in
theorem impl_isDomainPart.calls (a0 : ByteArray) (r : Bool) (w : World) (h : impl_isDomainPart.f a0 = some r) (hmx : MaxIs w) :
  Calls Tryd.prog 46 #[.string a0] w fun e w' => e = .returned (.bool r) ∧ Below w.heap.size w w' := by
 have HB := Aside0.mk (Below.refl w.heap.size w)
 have H : ((impl_in.f (a0.size : Int) 1 30).bind fun t351 => (if t351 = true then ((impl_only.f a0 (⟨#[97, 98, 99, 100, 101, 102, 103, 104, 105, 106, 107, 108, 109, 110, 111, 112, 113, 114, 115, 116, 117, 118, 119, 120, 121, 122, 48, 49, 50, 51, 52, 53, 54, 55, 56, 57, 46, 45]⟩ : ByteArray)).bind fun t352 => (if t352 = true then ((strings_Trim.f a0 (⟨#[46, 45]⟩ : ByteArray)).bind fun t353 => (if t353.toList = a0.toList then ((strings_Contains.f a0 (⟨#[46, 46]⟩ : ByteArray)).bind fun t354 => (some (!t354))) else (some false))) else (some false))) else (some false))) = some r := h
 clear h
 replace H := Option.bind_eq_some_iff.mp H
 obtain ⟨t351, A20, H⟩ := H
 (try dsimp -simprocs only at H)
 have A2 := Aside0.mk A20
 clear A20
 go_enter Tryd.func46, Tryd.ntmps46
 by_cases c3 : t351 = true
 rotate_left
 ·
  replace c3 := Bool.eq_false_iff.mpr c3
  subst c3
  rw [if_neg (show ¬ (false = true) by decide)] at H
  obtain rfl := Option.some.inj H
  go_wp2_with (((with_reducible refine gate_callee (f := 27) rfl ?_); refine goesL_ (some 5) rfl rfl Tryd.func27 (by kernel_rfl) rfl #[.int .i64 (a0.size : Int), .int .i64 1, .int .i64 30] rfl zb2_8 ?_; (with_reducible refine (impl_in.calls (a0.size : Int) 1 30 false _ A2.out).mono ?_); rintro e w' ⟨rfl, ⟨nd, rfl⟩⟩; refine ⟨_, rfl, ?_⟩))
  go_ret
  exact ⟨by rfl, by repeat ((with_reducible first | exact HB.out | apply pw_below_drewN))⟩
 subst c3
 rw [if_pos rfl] at H
 replace H := Option.bind_eq_some_iff.mp H
 obtain ⟨t352, A40, H⟩ := H
 (try dsimp -simprocs only at H)
 have A4 := Aside0.mk A40
 clear A40
 by_cases c5 : t352 = true
 rotate_left
 ·
  replace c5 := Bool.eq_false_iff.mpr c5
  subst c5
  rw [if_neg (show ¬ (false = true) by decide)] at H
  obtain rfl := Option.some.inj H
  go_wp2_with (first | ((with_reducible refine gate_callee (f := 27) rfl ?_); refine goesL_ (some 5) rfl rfl Tryd.func27 (by kernel_rfl) rfl #[.int .i64 (a0.size : Int), .int .i64 1, .int .i64 30] rfl zb2_8 ?_; (with_reducible refine (impl_in.calls (a0.size : Int) 1 30 true _ A2.out).mono ?_); rintro e w' ⟨rfl, ⟨nd, rfl⟩⟩; refine ⟨_, rfl, ?_⟩) | (go_at_call 49; (with_reducible refine (impl_only.calls a0 (⟨#[97, 98, 99, 100, 101, 102, 103, 104, 105, 106, 107, 108, 109, 110, 111, 112, 113, 114, 115, 116, 117, 118, 119, 120, 121, 122, 48, 49, 50, 51, 52, 53, 54, 55, 56, 57, 46, 45]⟩ : ByteArray) false _ A4.out).mono ?_); rintro e w13 ⟨rfl, hb⟩; replace HB := Aside0.mk (below_step zb0_8 hb); (try clear hb)))
  go_ret
  exact ⟨by rfl, by repeat ((with_reducible (exact HB.out)))⟩
 subst c5
 rw [if_pos rfl] at H
 replace H := Option.bind_eq_some_iff.mp H
 obtain ⟨t353, A60, H⟩ := H
 (try dsimp -simprocs only at H)
 have A6 := Aside0.mk A60
 clear A60
 by_cases c7 : t353.toList = a0.toList
 rotate_left
 ·
  rw [if_neg c7] at H
  have c7b0 : (t353.toList == a0.toList) = false := beq_eq_false_iff_ne.mpr c7
  have c7b1 : (t353.toList != a0.toList) = true := bne_iff_ne.mpr c7
  obtain rfl := Option.some.inj H
  (try rw [c7b0])
  (try rw [c7b1])
  go_wp2_with (first | ((with_reducible refine gate_callee (f := 27) rfl ?_); refine goesL_ (some 5) rfl rfl Tryd.func27 (by kernel_rfl) rfl #[.int .i64 (a0.size : Int), .int .i64 1, .int .i64 30] rfl zb2_8 ?_; (with_reducible refine (impl_in.calls (a0.size : Int) 1 30 true _ A2.out).mono ?_); rintro e w' ⟨rfl, ⟨nd, rfl⟩⟩; refine ⟨_, rfl, ?_⟩) | (go_at_call 49; (with_reducible refine (impl_only.calls a0 (⟨#[97, 98, 99, 100, 101, 102, 103, 104, 105, 106, 107, 108, 109, 110, 111, 112, 113, 114, 115, 116, 117, 118, 119, 120, 121, 122, 48, 49, 50, 51, 52, 53, 54, 55, 56, 57, 46, 45]⟩ : ByteArray) true _ A4.out).mono ?_); rintro e w11 ⟨rfl, hb⟩; replace HB := Aside0.mk (below_step zb0_8 hb); (try clear hb)) | (go_at_call 50; (with_reducible refine (strings_Trim.calls a0 (⟨#[46, 45]⟩ : ByteArray) t353 _ A6.out).mono ?_); rintro e w12 ⟨rfl, hb⟩; replace HB := Aside0.mk (below_step zb0_8 hb); (try clear hb)))
  go_ret
  exact ⟨by rfl, by repeat ((with_reducible (exact HB.out)))⟩
 rw [if_pos c7] at H
 have c7b0 : (t353.toList == a0.toList) = true := beq_iff_eq.mpr c7
 have c7b1 : (t353.toList != a0.toList) = false := bne_eq_false_iff_eq.mpr c7
 clear c7
 replace H := Option.bind_eq_some_iff.mp H
 obtain ⟨t354, A80, H⟩ := H
 replace H : (some (!t354)) = some r := H
 have A8 := Aside0.mk A80
 clear A80
 obtain rfl := Option.some.inj H
 (try rw [c7b0])
 (try rw [c7b1])
 go_wp2_with (first | ((with_reducible refine gate_callee (f := 27) rfl ?_); refine goesL_ (some 5) rfl rfl Tryd.func27 (by kernel_rfl) rfl #[.int .i64 (a0.size : Int), .int .i64 1, .int .i64 30] rfl zb2_8 ?_; (with_reducible refine (impl_in.calls (a0.size : Int) 1 30 true _ A2.out).mono ?_); rintro e w' ⟨rfl, ⟨nd, rfl⟩⟩; refine ⟨_, rfl, ?_⟩) | (go_at_call 49; (with_reducible refine (impl_only.calls a0 (⟨#[97, 98, 99, 100, 101, 102, 103, 104, 105, 106, 107, 108, 109, 110, 111, 112, 113, 114, 115, 116, 117, 118, 119, 120, 121, 122, 48, 49, 50, 51, 52, 53, 54, 55, 56, 57, 46, 45]⟩ : ByteArray) true _ A4.out).mono ?_); rintro e w9 ⟨rfl, hb⟩; replace HB := Aside0.mk (below_step zb0_8 hb); (try clear hb)) | (go_at_call 50; (with_reducible refine (strings_Trim.calls a0 (⟨#[46, 45]⟩ : ByteArray) t353 _ A6.out).mono ?_); rintro e w10 ⟨rfl, hb⟩; replace HB := Aside0.mk (below_step zb0_8 hb); (try clear hb)) | (go_at_call 51; (with_reducible refine (strings_Contains.calls a0 (⟨#[46, 46]⟩ : ByteArray) t354 _ A8.out (by (exact hmx.below HB.out))).mono ?_); rintro e w' ⟨rfl, ⟨nd, rfl⟩⟩))
 go_ret
 exact ⟨by rfl, by repeat ((with_reducible first | exact HB.out | apply pw_below_drewN))⟩
/-! ### impl_isPrintable: function 52 -/
def impl_isPrintable.l0 : Nat → ByteArray → Int → Int → Option (Bool)
 | 0, _, _, _ => none
 | k + 1, x0, x5, x6 => if x6 < x5 then (if 0 ≤ x6 then (if x6 < (x0.size : Int) then ((impl_in.f (wrap64 (bt x0 x6)) 32 126).bind fun t355 => (if t355 = true then (impl_isPrintable.l0 k x0 x5 (wrap64 (x6 + 1))) else (some false))) else (none)) else (none)) else (some true)
def impl_isPrintable.f (k : Nat) (a0 : ByteArray) : Option (Bool) := impl_isPrintable.l0 k a0 (a0.size : Int) 0
theorem impl_isPrintable.mono_l : ∀ k, (∀ y0 y1 y2, LeO (impl_isPrintable.l0 k y0 y1 y2) (impl_isPrintable.l0 (k + 1) y0 y1 y2))
 | 0 => fun _ _ _ r h => by simp [impl_isPrintable.l0] at h
 | k + 1 => by
  have ih0 := impl_isPrintable.mono_l k
  ·
   intro y0 y1 y2
   unfold impl_isPrintable.l0
   repeat' first
   | (with_reducible exact ih0 _ _ _)
   | (with_reducible exact LeO.refl _)
   | (with_reducible exact LeO.none _)
   | (with_reducible refine LeO.ite ?_ ?_)
   | (with_reducible refine LeO.bind ?_ (fun _ => ?_))
   | exact ih0 _ _ _
   | exact LeO.none _
   | refine LeO.ite ?_ ?_
   | refine LeO.bind ?_ (fun _ => ?_)
theorem impl_isPrintable.mono : ∀ a0 k, LeO (impl_isPrintable.f k a0) (impl_isPrintable.f (k + 1) a0) := by
 intro a0 k
 have ih0 := impl_isPrintable.mono_l k
 unfold impl_isPrintable.f
 repeat' first
   | (with_reducible exact ih0 _ _ _)
   | (with_reducible exact LeO.refl _)
   | (with_reducible exact LeO.none _)
   | (with_reducible refine LeO.ite ?_ ?_)
   | (with_reducible refine LeO.bind ?_ (fun _ => ?_))
   | exact ih0 _ _ _
   | exact LeO.none _
   | refine LeO.ite ?_ ?_
   | refine LeO.bind ?_ (fun _ => ?_)
set_option maxHeartbeats 8000000 in
set_option maxRecDepth 100000 in
theorem impl_isPrintable.calls (k : Nat) (a0 : ByteArray) (r : Bool) (w : World) (h : impl_isPrintable.f k a0 = some r) :
  Calls Tryd.prog 52 #[.string a0] w fun e w' => e = .returned (.bool r) ∧ Drawn0 w w' := by
 have H : (impl_isPrintable.l0 k a0 (a0.size : Int) 0) = some r := h
 clear h
 have H' := Aside0.mk H
 clear H
 go_enter Tryd.func52, Tryd.ntmps52
 go_wp2
 go_loopg [6] k (fun kq v6 w' => ∃ (x6_1 : Int), v6 = .int .i64 x6_1 ∧ Aside0 (impl_isPrintable.l0 kq a0 (a0.size : Int) x6_1 = some r) ∧ Aside0 (kq ≤ k) ∧ Drawn0 w w')
 case atStart => exact ⟨(0), (by rfl), H', ⟨Nat.le_refl _⟩, by repeat ((exact Drawn0.refl _))⟩
 case round =>
  clear H'
  obtain ⟨x6_1, rfl, HA, HK1, ⟨m1, rfl⟩⟩ := hrel
  cases gk with
  | zero => exact absurd HA.out (by simp [impl_isPrintable.l0])
  | succ k1 =>
   have H := HA.out
   clear HA
   simp only [impl_isPrintable.l0] at H
   by_cases c2 : x6_1 < (a0.size : Int)
   rotate_left
   · rw [if_neg c2] at H; have c2b0 := decide_eq_false c2; clear c2; obtain rfl := Option.some.inj H; go_wp2; go_ret; exact ⟨by rfl, by repeat (first | exact Drawn0.refl _ | apply Drawn0.step)⟩
   rw [if_pos c2] at H
   have c2b0 := decide_eq_true c2
   clear c2
   by_cases c3 : 0 ≤ x6_1
   rotate_left
   · rw [if_neg c3] at H; exact absurd H (by simp)
   rw [if_pos c3] at H
   have c3b0 := decide_eq_true c3
   clear c3
   by_cases c4 : x6_1 < (a0.size : Int)
   rotate_left
   · rw [if_neg c4] at H; exact absurd H (by simp)
   rw [if_pos c4] at H
   have c4b0 := decide_eq_true c4
   clear c4
   replace H := Option.bind_eq_some_iff.mp H
   obtain ⟨t355, A60, H⟩ := H
   (try dsimp -simprocs only at H)
   have A6 := Aside0.mk A60
   clear A60
   have p5 : 0 ≤ (x6_1 : Int) := of_decide_eq_true zb6_8
   have q5 : x6_1 < (a0.size : Int) := of_decide_eq_true zb6_8
   have hx5 := bt_at a0 x6_1
   replace p5 := eq_true p5
   replace q5 := eq_true q5
   by_cases c7 : t355 = true
   rotate_left
   ·
    replace c7 := Bool.eq_false_iff.mpr c7
    subst c7
    rw [if_neg (show ¬ (false = true) by decide)] at H
    obtain rfl := Option.some.inj H
    go_wp2_with (((with_reducible refine gate_callee (f := 27) rfl ?_); refine goesL_ (some 13) rfl rfl Tryd.func27 (by kernel_rfl) rfl #[.int .i64 (wrap64 (bt a0 x6_1)), .int .i64 32, .int .i64 126] rfl zb2_8 ?_; (with_reducible refine (impl_in.calls (wrap64 (bt a0 x6_1)) 32 126 false _ A6.out).mono ?_); rintro e w' ⟨rfl, ⟨nd, rfl⟩⟩; refine ⟨_, rfl, ?_⟩))
    go_ret
    exact ⟨by rfl, by repeat (first | exact Drawn0.refl _ | apply Drawn0.step)⟩
   subst c7
   rw [if_pos rfl] at H
   have H' := Aside0.mk H
   clear H
   go_wp2_with (((with_reducible refine gate_callee (f := 27) rfl ?_); refine goesL_ (some 13) rfl rfl Tryd.func27 (by kernel_rfl) rfl #[.int .i64 (wrap64 (bt a0 x6_1)), .int .i64 32, .int .i64 126] rfl zb2_8 ?_; (with_reducible refine (impl_in.calls (wrap64 (bt a0 x6_1)) 32 126 true _ A6.out).mono ?_); rintro e w' ⟨rfl, ⟨nd, rfl⟩⟩; refine ⟨_, rfl, ?_⟩))
   go_roundg k1
   case measure => have := HK1.out; omega
   case rel => exact ⟨(wrap64 (x6_1 + 1)), (by rfl), H', ⟨by have := HK1.out; omega⟩, by repeat (first | exact Drawn0.refl _ | apply Drawn0.step)⟩
/-! ### strings_ContainsAny: function 53: by the library's contract, at ASCII texts -/
def strings_ContainsAny.f (a0 : ByteArray) (a1 : ByteArray) : Option (Bool) := if a0.size < 4294967281 then (if a1.size < 4294967281 then (if (a0.data.toList.all fun b => decide (b.toNat < 128)) = true then (if (a1.data.toList.all fun b => decide (b.toNat < 128)) = true then some (Lib.containsAny a0.data.toList a1.data.toList) else none) else none) else none) else none
theorem strings_ContainsAny.calls (a0 : ByteArray) (a1 : ByteArray) (r : Bool) (w : World) (h : strings_ContainsAny.f a0 a1 = some r) :
  Calls Tryd.prog 53 #[.string a0, .string a1] w fun e w' => e = .returned (.bool r) ∧ Below w.heap.size w w' := by
 unfold strings_ContainsAny.f at h
 by_cases h0 : a0.size < 4294967281
 rotate_left
 · rw [if_neg h0] at h; exact absurd h (by simp)
 by_cases h1 : a1.size < 4294967281
 rotate_left
 · rw [if_pos h0, if_neg h1] at h; exact absurd h (by simp)
 by_cases h2 : (a0.data.toList.all fun b => decide (b.toNat < 128)) = true
 rotate_left
 · rw [if_pos h0, if_pos h1, if_neg h2] at h; exact absurd h (by simp)
 by_cases h3 : (a1.data.toList.all fun b => decide (b.toNat < 128)) = true
 rotate_left
 · rw [if_pos h0, if_pos h1, if_pos h2, if_neg h3] at h; exact absurd h (by simp)
 rw [if_pos h0, if_pos h1, if_pos h2, if_pos h3] at h
 have hr := Option.some.inj h
 have hcon := Any.strings_ContainsAny_laid Tryd.lays150 (by kernel_rfl) a0 a1 w h0 h1 (fun j b hj => of_decide_eq_true (List.all_eq_true.1 h2 b (List.mem_of_getElem? hj))) (fun j b hj => of_decide_eq_true (List.all_eq_true.1 h3 b (List.mem_of_getElem? hj)))
 change Calls Tryd.prog 53 _ _ (fun e w' => e = .returned (.bool (Lib.containsAny a0.data.toList a1.data.toList)) ∧ Below w.heap.size w w') at hcon
 rw [hr] at hcon
 exact hcon
/-! ### impl_isResource: function 47 -/
def impl_isResource.f (k : Nat) (a0 : ByteArray) : Option (Bool) := if (a0.size : Int) ≤ 30 then ((impl_isPrintable.f k a0).bind fun t356 => (if t356 = true then ((strings_ContainsAny.f a0 (⟨#[32, 47, 60, 62, 38, 39, 34]⟩ : ByteArray)).bind fun t357 => (some (!t357))) else (some false))) else (some false)
theorem impl_isResource.mono : ∀ a0 k, LeO (impl_isResource.f k a0) (impl_isResource.f (k + 1) a0) := by
 intro a0 k
 unfold impl_isResource.f
 repeat' first
   | (with_reducible exact impl_isPrintable.mono _ _)
   | (with_reducible exact LeO.refl _)
   | (with_reducible exact LeO.none _)
   | (with_reducible refine LeO.ite ?_ ?_)
   | (with_reducible refine LeO.bind ?_ (fun _ => ?_))
   | exact impl_isPrintable.mono _ _
   | exact LeO.none _
   | refine LeO.ite ?_ ?_
   | refine LeO.bind ?_ (fun _ => ?_)
set_option maxHeartbeats 8000000 in
set_option maxRecDepth 100000 in
theorem impl_isResource.calls (k : Nat) (a0 : ByteArray) (r : Bool) (w : World) (h : impl_isResource.f k a0 = some r) :
  Calls Tryd.prog 47 #[.string a0] w fun e w' => e = .returned (.bool r) ∧ Below w.heap.size w w' := by
 have HB := Aside0.mk (Below.refl w.heap.size w)
 have H : (if (a0.size : Int) ≤ 30 then ((impl_isPrintable.f k a0).bind fun t356 => (if t356 = true then ((strings_ContainsAny.f a0 (⟨#[32, 47, 60, 62, 38, 39, 34]⟩ : ByteArray)).bind fun t357 => (some (!t357))) else (some false))) else (some false)) = some r := h
 clear h
 go_enter Tryd.func47, Tryd.ntmps47
 by_cases c2 : (a0.size : Int) ≤ 30
 rotate_left
 ·
  rw [if_neg c2] at H
  have c2b0 := decide_eq_false c2
  have c2b1 : decide (a0.size ≤ 30) = false := decide_eq_false (by omega)
  clear c2
  obtain rfl := Option.some.inj H
  (try rw [c2b0])
  (try rw [c2b1])
  go_wp2
  go_ret
  exact ⟨by rfl, by repeat ((with_reducible (exact HB.out)))⟩
 rw [if_pos c2] at H
 have c2b0 := decide_eq_true c2
 have c2b1 : decide (a0.size ≤ 30) = true := decide_eq_true (by omega)
 clear c2
 replace H := Option.bind_eq_some_iff.mp H
 obtain ⟨t356, A30, H⟩ := H
 (try dsimp -simprocs only at H)
 have A3 := Aside0.mk A30
 clear A30
 (try rw [c2b0])
 (try rw [c2b1])
 by_cases c4 : t356 = true
 rotate_left
 ·
  replace c4 := Bool.eq_false_iff.mpr c4
  subst c4
  rw [if_neg (show ¬ (false = true) by decide)] at H
  obtain rfl := Option.some.inj H
  go_wp2_with ((go_at_call 52; (with_reducible refine (impl_isPrintable.calls k a0 false _ A3.out).mono ?_); rintro e w' ⟨rfl, ⟨nd, rfl⟩⟩))
  go_ret
  exact ⟨by rfl, by repeat ((with_reducible first | exact HB.out | apply pw_below_drewN))⟩
 subst c4
 rw [if_pos rfl] at H
 replace H := Option.bind_eq_some_iff.mp H
 obtain ⟨t357, A50, H⟩ := H
 replace H : (some (!t357)) = some r := H
 have A5 := Aside0.mk A50
 clear A50
 obtain rfl := Option.some.inj H
 go_wp2_with (first | (go_at_call 52; (with_reducible refine (impl_isPrintable.calls k a0 true _ A3.out).mono ?_); rintro e w' ⟨rfl, ⟨nd, rfl⟩⟩) | (go_at_call 53; (with_reducible refine (strings_ContainsAny.calls a0 (⟨#[32, 47, 60, 62, 38, 39, 34]⟩ : ByteArray) t357 _ A5.out).mono ?_); rintro e w6 ⟨rfl, hb⟩; replace HB := Aside0.mk (below_step zb0_8 hb); (try clear hb)))
 go_ret
 exact ⟨by rfl, by repeat ((with_reducible (exact HB.out)))⟩
/-! ### impl_JidRight: function 41 -/
def impl_JidRight.f (k : Nat) (a0_0 : ByteArray) (a0_1 : ByteArray) (a0_2 : ByteArray) : Option (Bool) := (impl_isLocal.f a0_0).bind fun t359 => (if t359 = true then ((impl_isDomainPart.f a0_1).bind fun t360 => (if t360 = true then ((impl_isResource.f k a0_2).bind fun t361 => (some t361)) else (some false))) else (some false))
theorem impl_JidRight.mono : ∀ a0 a1 a2 k, LeO (impl_JidRight.f k a0 a1 a2) (impl_JidRight.f (k + 1) a0 a1 a2) := by
 intro a0 a1 a2 k
 unfold impl_JidRight.f
 repeat' first
   | (with_reducible exact impl_isResource.mono _ _)
   | (with_reducible exact LeO.refl _)
   | (with_reducible exact LeO.none _)
   | (with_reducible refine LeO.ite ?_ ?_)
   | (with_reducible refine LeO.bind ?_ (fun _ => ?_))
   | exact impl_isResource.mono _ _
   | exact LeO.none _
   | refine LeO.ite ?_ ?_
   | refine LeO.bind ?_ (fun _ => ?_)
set_option maxHeartbeats 8000000 in
set_option maxRecDepth 100000 in
theorem impl_JidRight.calls (k : Nat) (a0_0 : ByteArray) (a0_1 : ByteArray) (a0_2 : ByteArray) (r : Bool) (w : World) (h : impl_JidRight.f k a0_0 a0_1 a0_2 = some r) (hmx : MaxIs w) :
  Calls Tryd.prog 41 #[.agg #[.string a0_0, .string a0_1, .string a0_2]] w fun e w' => e = .returned (.bool r) ∧ Below w.heap.size w w' := by
 have hu63 := Tryd.underlying63
 have HB := Aside0.mk (Below.refl w.heap.size w)
 have H : ((impl_isLocal.f a0_0).bind fun t359 => (if t359 = true then ((impl_isDomainPart.f a0_1).bind fun t360 => (if t360 = true then ((impl_isResource.f k a0_2).bind fun t361 => (some t361)) else (some false))) else (some false))) = some r := h
 clear h
 replace H := Option.bind_eq_some_iff.mp H
 obtain ⟨t359, A20, H⟩ := H
 (try dsimp -simprocs only at H)
 have A2 := Aside0.mk A20
 clear A20
 go_enter Tryd.func41, Tryd.ntmps41
 by_cases c3 : t359 = true
 rotate_left
 ·
  replace c3 := Bool.eq_false_iff.mpr c3
  subst c3
  rw [if_neg (show ¬ (false = true) by decide)] at H
  obtain rfl := Option.some.inj H
  go_wp2_with (first | ((with_reducible refine gate_dst (N := 1) rfl ?_); refine box_event ?hg (N := 1) ?hd (cs := #[.string a0_0, .string a0_1, .string a0_2]) (t := 63) ?hr ?_; (case hd => rfl); (case hg => rfl); (case hr => (go_simp; done)); intro gb358 hg w19 hbox hb; have BK358 := Aside0.mk (hbox); have GW358 := Aside0.mk ((zb1_8 : w.heap.size ≤ gb358)); have GE358 := GW358; replace HB := Aside0.mk (below_step zb0_8 hb); clear hb hbox hg; obtain ⟨z0, z1, z2, z3, z4, z5⟩ := bz3 BK358.out) | ((with_reducible refine gate_callee (f := 45) rfl ?_); refine goesL_ (some 5) rfl rfl Tryd.func45 (by kernel_rfl) rfl #[.string a0_0] rfl zb2_8 ?_; (with_reducible refine (impl_isLocal.calls a0_0 false _ A2.out).mono ?_); rintro e w21 ⟨rfl, hb⟩; refine ⟨_, rfl, ?_⟩; replace BK358 := bkb BK358 hb; replace HB := Aside0.mk (below_step zb8_8 hb); (try clear hb)))
  go_ret
  exact ⟨by rfl, by repeat ((with_reducible (exact HB.out)))⟩
 subst c3
 rw [if_pos rfl] at H
 replace H := Option.bind_eq_some_iff.mp H
 obtain ⟨t360, A40, H⟩ := H
 (try dsimp -simprocs only at H)
 have A4 := Aside0.mk A40
 clear A40
 by_cases c5 : t360 = true
 rotate_left
 ·
  replace c5 := Bool.eq_false_iff.mpr c5
  subst c5
  rw [if_neg (show ¬ (false = true) by decide)] at H
  obtain rfl := Option.some.inj H
  go_wp2_with (first | ((with_reducible refine gate_dst (N := 1) rfl ?_); refine box_event ?hg (N := 1) ?hd (cs := #[.string a0_0, .string a0_1, .string a0_2]) (t := 63) ?hr ?_; (case hd => rfl); (case hg => rfl); (case hr => (go_simp; done)); intro gb358 hg w14 hbox hb; have BK358 := Aside0.mk (hbox); have GW358 := Aside0.mk ((zb1_8 : w.heap.size ≤ gb358)); have GE358 := GW358; replace HB := Aside0.mk (below_step zb0_8 hb); clear hb hbox hg; obtain ⟨z0, z1, z2, z3, z4, z5⟩ := bz3 BK358.out) | ((with_reducible refine gate_callee (f := 45) rfl ?_); refine goesL_ (some 5) rfl rfl Tryd.func45 (by kernel_rfl) rfl #[.string a0_0] rfl zb2_8 ?_; (with_reducible refine (impl_isLocal.calls a0_0 true _ A2.out).mono ?_); rintro e w16 ⟨rfl, hb⟩; refine ⟨_, rfl, ?_⟩; replace BK358 := bkb BK358 hb; replace HB := Aside0.mk (below_step zb8_8 hb); (try clear hb); obtain ⟨z0, z1, z2, z3, z4, z5⟩ := bz3 BK358.out) | (go_at_call 46; (with_reducible refine (impl_isDomainPart.calls a0_1 false _ A4.out (by (exact hmx.below HB.out))).mono ?_); rintro e w18 ⟨rfl, hb⟩; replace BK358 := bkb BK358 hb; replace HB := Aside0.mk (below_step zb8_8 hb); (try clear hb)))
  go_ret
  exact ⟨by rfl, by repeat ((with_reducible (exact HB.out)))⟩
 subst c5
 rw [if_pos rfl] at H
 replace H := Option.bind_eq_some_iff.mp H
 obtain ⟨t361, A60, H⟩ := H
 replace H : (some t361) = some r := H
 have A6 := Aside0.mk A60
 clear A60
 obtain rfl := Option.some.inj H
 go_wp2_with (first | ((with_reducible refine gate_dst (N := 1) rfl ?_); refine box_event ?hg (N := 1) ?hd (cs := #[.string a0_0, .string a0_1, .string a0_2]) (t := 63) ?hr ?_; (case hd => rfl); (case hg => rfl); (case hr => (go_simp; done)); intro gb358 hg w7 hbox hb; have BK358 := Aside0.mk (hbox); have GW358 := Aside0.mk ((zb1_8 : w.heap.size ≤ gb358)); have GE358 := GW358; replace HB := Aside0.mk (below_step zb0_8 hb); clear hb hbox hg; obtain ⟨z0, z1, z2, z3, z4, z5⟩ := bz3 BK358.out) | ((with_reducible refine gate_callee (f := 45) rfl ?_); refine goesL_ (some 5) rfl rfl Tryd.func45 (by kernel_rfl) rfl #[.string a0_0] rfl zb2_8 ?_; (with_reducible refine (impl_isLocal.calls a0_0 true _ A2.out).mono ?_); rintro e w9 ⟨rfl, hb⟩; refine ⟨_, rfl, ?_⟩; replace BK358 := bkb BK358 hb; replace HB := Aside0.mk (below_step zb8_8 hb); (try clear hb); obtain ⟨z0, z1, z2, z3, z4, z5⟩ := bz3 BK358.out) | (go_at_call 46; (with_reducible refine (impl_isDomainPart.calls a0_1 true _ A4.out (by (exact hmx.below HB.out))).mono ?_); rintro e w11 ⟨rfl, hb⟩; replace BK358 := bkb BK358 hb; replace HB := Aside0.mk (below_step zb8_8 hb); (try clear hb); obtain ⟨z0, z1, z2, z3, z4, z5⟩ := bz3 BK358.out) | (go_at_call 47; (with_reducible refine (impl_isResource.calls k a0_2 t361 _ A6.out).mono ?_); rintro e w13 ⟨rfl, hb⟩; replace BK358 := bkb BK358 hb; replace HB := Aside0.mk (below_step zb8_8 hb); (try clear hb)))
 go_ret
 exact ⟨by rfl, by repeat ((with_reducible (exact HB.out)))⟩
/-! ### impl_Jid_text: function 42 -/
def impl_Jid_text.f (a0_0 : ByteArray) (a0_1 : ByteArray) (a0_2 : ByteArray) : Option (ByteArray) := if a0_0.toList = ([] : List UInt8) then (if a0_2.toList = ([] : List UInt8) then (some a0_1) else (if 1 + a0_2.size ≤ 9223372036854775807 then (if a0_1.size + ((⟨#[47]⟩ : ByteArray) ++ a0_2).size ≤ 9223372036854775807 then (some (a0_1 ++ ((⟨#[47]⟩ : ByteArray) ++ a0_2))) else (none)) else (none))) else (if a0_0.size + 1 ≤ 9223372036854775807 then (if (a0_0 ++ (⟨#[64]⟩ : ByteArray)).size + a0_1.size ≤ 9223372036854775807 then (if a0_2.toList = ([] : List UInt8) then (some ((a0_0 ++ (⟨#[64]⟩ : ByteArray)) ++ a0_1)) else (if 1 + a0_2.size ≤ 9223372036854775807 then (if ((a0_0 ++ (⟨#[64]⟩ : ByteArray)) ++ a0_1).size + ((⟨#[47]⟩ : ByteArray) ++ a0_2).size ≤ 9223372036854775807 then (some (((a0_0 ++ (⟨#[64]⟩ : ByteArray)) ++ a0_1) ++ ((⟨#[47]⟩ : ByteArray) ++ a0_2))) else (none)) else (none))) else (none)) else (none))
set_option maxHeartbeats 8000000 in
set_option maxRecDepth 100000 in
theorem impl_Jid_text.calls (a0_0 : ByteArray) (a0_1 : ByteArray) (a0_2 : ByteArray) (r : ByteArray) (w : World) (h : impl_Jid_text.f a0_0 a0_1 a0_2 = some r) :
  Calls Tryd.prog 42 #[.agg #[.string a0_0, .string a0_1, .string a0_2]] w fun e w' => e = .returned (.string r) ∧ Below w.heap.size w w' := by
 have hu63 := Tryd.underlying63
 have HB := Aside0.mk (Below.refl w.heap.size w)
 have H : (if a0_0.toList = ([] : List UInt8) then (if a0_2.toList = ([] : List UInt8) then (some a0_1) else (if 1 + a0_2.size ≤ 9223372036854775807 then (if a0_1.size + ((⟨#[47]⟩ : ByteArray) ++ a0_2).size ≤ 9223372036854775807 then (some (a0_1 ++ ((⟨#[47]⟩ : ByteArray) ++ a0_2))) else (none)) else (none))) else (if a0_0.size + 1 ≤ 9223372036854775807 then (if (a0_0 ++ (⟨#[64]⟩ : ByteArray)).size + a0_1.size ≤ 9223372036854775807 then (if a0_2.toList = ([] : List UInt8) then (some ((a0_0 ++ (⟨#[64]⟩ : ByteArray)) ++ a0_1)) else (if 1 + a0_2.size ≤ 9223372036854775807 then (if ((a0_0 ++ (⟨#[64]⟩ : ByteArray)) ++ a0_1).size + ((⟨#[47]⟩ : ByteArray) ++ a0_2).size ≤ 9223372036854775807 then (some (((a0_0 ++ (⟨#[64]⟩ : ByteArray)) ++ a0_1) ++ ((⟨#[47]⟩ : ByteArray) ++ a0_2))) else (none)) else (none))) else (none)) else (none))) = some r := h
 clear h
 go_enter Tryd.func42, Tryd.ntmps42
 by_cases c2 : a0_0.toList = ([] : List UInt8)
 ·
  rw [if_pos c2] at H
  have c2b0 : (a0_0.toList == ([] : List UInt8)) = true := beq_iff_eq.mpr c2
  have c2b1 : (a0_0.toList != ([] : List UInt8)) = false := bne_eq_false_iff_eq.mpr c2
  clear c2
  (try rw [c2b0])
  (try rw [c2b1])
  by_cases c3 : a0_2.toList = ([] : List UInt8)
  ·
   rw [if_pos c3] at H
   have c3b0 : (a0_2.toList == ([] : List UInt8)) = true := beq_iff_eq.mpr c3
   have c3b1 : (a0_2.toList != ([] : List UInt8)) = false := bne_eq_false_iff_eq.mpr c3
   clear c3
   obtain rfl := Option.some.inj H
   (try rw [c3b0])
   (try rw [c3b1])
   go_wp2_with (((with_reducible refine gate_dst (N := 1) rfl ?_); refine box_event ?hg (N := 1) ?hd (cs := #[.string a0_0, .string a0_1, .string a0_2]) (t := 63) ?hr ?_; (case hd => rfl); (case hg => rfl); (case hr => (go_simp; done)); intro gb362 hg w4 hbox hb; have BK362 := Aside0.mk (hbox); have GW362 := Aside0.mk ((zb1_8 : w.heap.size ≤ gb362)); have GE362 := GW362; replace HB := Aside0.mk (below_step zb0_8 hb); clear hb hbox hg; obtain ⟨z0, z1, z2, z3, z4, z5⟩ := bz3 BK362.out))
   go_ret
   exact ⟨by rfl, by repeat ((with_reducible (exact HB.out)))⟩
  rw [if_neg c3] at H
  have c3b0 : (a0_2.toList == ([] : List UInt8)) = false := beq_eq_false_iff_ne.mpr c3
  have c3b1 : (a0_2.toList != ([] : List UInt8)) = true := bne_iff_ne.mpr c3
  (try rw [c3b0])
  (try rw [c3b1])
  by_cases c6 : 1 + a0_2.size ≤ 9223372036854775807
  rotate_left
  · rw [if_neg c6] at H; exact absurd H (by simp)
  rw [if_pos c6] at H
  have c6b0 := eq_true c6
  have c6b1 := decide_eq_true c6
  try have c6b2 : (9223372036854775807 < 1 + a0_2.size) = False := eq_false (Nat.not_lt.2 c6)
  by_cases c7 : a0_1.size + ((⟨#[47]⟩ : ByteArray) ++ a0_2).size ≤ 9223372036854775807
  rotate_left
  · rw [if_neg c7] at H; exact absurd H (by simp)
  rw [if_pos c7] at H
  have c7b0 := eq_true c7
  have c7b1 := decide_eq_true c7
  try have c7b2 : (9223372036854775807 < a0_1.size + ((⟨#[47]⟩ : ByteArray) ++ a0_2).size) = False := eq_false (Nat.not_lt.2 c7)
  obtain rfl := Option.some.inj H
  go_wp2_with (((with_reducible refine gate_dst (N := 1) rfl ?_); refine box_event ?hg (N := 1) ?hd (cs := #[.string a0_0, .string a0_1, .string a0_2]) (t := 63) ?hr ?_; (case hd => rfl); (case hg => rfl); (case hr => (go_simp; done)); intro gb362 hg w4 hbox hb; have BK362 := Aside0.mk (hbox); have GW362 := Aside0.mk ((zb1_8 : w.heap.size ≤ gb362)); have GE362 := GW362; replace HB := Aside0.mk (below_step zb0_8 hb); clear hb hbox hg; obtain ⟨z0, z1, z2, z3, z4, z5⟩ := bz3 BK362.out))
  go_ret
  exact ⟨by rfl, by repeat ((with_reducible (exact HB.out)))⟩
 rw [if_neg c2] at H
 have c2b0 : (a0_0.toList == ([] : List UInt8)) = false := beq_eq_false_iff_ne.mpr c2
 have c2b1 : (a0_0.toList != ([] : List UInt8)) = true := bne_iff_ne.mpr c2
 (try rw [c2b0])
 (try rw [c2b1])
 by_cases c10 : a0_0.size + 1 ≤ 9223372036854775807
 rotate_left
 · rw [if_neg c10] at H; exact absurd H (by simp)
 rw [if_pos c10] at H
 have c10b0 := eq_true c10
 have c10b1 := decide_eq_true c10
 try have c10b2 : (9223372036854775807 < a0_0.size + 1) = False := eq_false (Nat.not_lt.2 c10)
 by_cases c11 : (a0_0 ++ (⟨#[64]⟩ : ByteArray)).size + a0_1.size ≤ 9223372036854775807
 rotate_left
 · rw [if_neg c11] at H; exact absurd H (by simp)
 rw [if_pos c11] at H
 have c11b0 := eq_true c11
 have c11b1 := decide_eq_true c11
 try have c11b2 : (9223372036854775807 < (a0_0 ++ (⟨#[64]⟩ : ByteArray)).size + a0_1.size) = False := eq_false (Nat.not_lt.2 c11)
 try have c11d : a0_0.size + 1 + a0_1.size ≤ 9223372036854775807 := by have h_ := c11; simp only [ByteArray.size_append] at h_; exact h_
 try have c11d0 := eq_true c11d
 try have c11d1 := decide_eq_true c11d
 try have c11d2 : (9223372036854775807 < a0_0.size + 1 + a0_1.size) = False := eq_false (Nat.not_lt.2 c11d)
 by_cases c12 : a0_2.toList = ([] : List UInt8)
 ·
  rw [if_pos c12] at H
  have c12b0 : (a0_2.toList == ([] : List UInt8)) = true := beq_iff_eq.mpr c12
  have c12b1 : (a0_2.toList != ([] : List UInt8)) = false := bne_eq_false_iff_eq.mpr c12
  clear c12
  obtain rfl := Option.some.inj H
  (try rw [c12b0])
  (try rw [c12b1])
  go_wp2_with (((with_reducible refine gate_dst (N := 1) rfl ?_); refine box_event ?hg (N := 1) ?hd (cs := #[.string a0_0, .string a0_1, .string a0_2]) (t := 63) ?hr ?_; (case hd => rfl); (case hg => rfl); (case hr => (go_simp; done)); intro gb362 hg w13 hbox hb; have BK362 := Aside0.mk (hbox); have GW362 := Aside0.mk ((zb1_8 : w.heap.size ≤ gb362)); have GE362 := GW362; replace HB := Aside0.mk (below_step zb0_8 hb); clear hb hbox hg; obtain ⟨z0, z1, z2, z3, z4, z5⟩ := bz3 BK362.out))
  go_ret
  exact ⟨by rfl, by repeat ((with_reducible (exact HB.out)))⟩
 rw [if_neg c12] at H
 have c12b0 : (a0_2.toList == ([] : List UInt8)) = false := beq_eq_false_iff_ne.mpr c12
 have c12b1 : (a0_2.toList != ([] : List UInt8)) = true := bne_iff_ne.mpr c12
 (try rw [c12b0])
 (try rw [c12b1])
 by_cases c15 : 1 + a0_2.size ≤ 9223372036854775807
 rotate_left
 · rw [if_neg c15] at H; exact absurd H (by simp)
 rw [if_pos c15] at H
 have c15b0 := eq_true c15
 have c15b1 := decide_eq_true c15
 try have c15b2 : (9223372036854775807 < 1 + a0_2.size) = False := eq_false (Nat.not_lt.2 c15)
 by_cases c16 : ((a0_0 ++ (⟨#[64]⟩ : ByteArray)) ++ a0_1).size + ((⟨#[47]⟩ : ByteArray) ++ a0_2).size ≤ 9223372036854775807
 rotate_left
 · rw [if_neg c16] at H; exact absurd H (by simp)
 rw [if_pos c16] at H
 have c16b0 := eq_true c16
 have c16b1 := decide_eq_true c16
 try have c16b2 : (9223372036854775807 < ((a0_0 ++ (⟨#[64]⟩ : ByteArray)) ++ a0_1).size + ((⟨#[47]⟩ : ByteArray) ++ a0_2).size) = False := eq_false (Nat.not_lt.2 c16)
 try have c16d : a0_0.size + 1 + a0_1.size + (1 + a0_2.size) ≤ 9223372036854775807 := by have h_ := c16; simp only [ByteArray.size_append] at h_; exact h_
 try have c16d0 := eq_true c16d
 try have c16d1 := decide_eq_true c16d
 try have c16d2 : (9223372036854775807 < a0_0.size + 1 + a0_1.size + (1 + a0_2.size)) = False := eq_false (Nat.not_lt.2 c16d)
 obtain rfl := Option.some.inj H
 go_wp2_with (((with_reducible refine gate_dst (N := 1) rfl ?_); refine box_event ?hg (N := 1) ?hd (cs := #[.string a0_0, .string a0_1, .string a0_2]) (t := 63) ?hr ?_; (case hd => rfl); (case hg => rfl); (case hr => (go_simp; done)); intro gb362 hg w13 hbox hb; have BK362 := Aside0.mk (hbox); have GW362 := Aside0.mk ((zb1_8 : w.heap.size ≤ gb362)); have GE362 := GW362; replace HB := Aside0.mk (below_step zb0_8 hb); clear hb hbox hg; obtain ⟨z0, z1, z2, z3, z4, z5⟩ := bz3 BK362.out))
 go_ret
 exact ⟨by rfl, by repeat ((with_reducible (exact HB.out)))⟩
end Go.Proofs.YtfijkimkdccioaaDoor.QFnDialback
