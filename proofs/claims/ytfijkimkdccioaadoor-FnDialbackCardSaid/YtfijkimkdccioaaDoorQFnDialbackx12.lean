-- laid by this session's own runner (wip/print2.py): not a printed file
import Derived.Test.YtfijkimkdccioaaDoorQFnDialbackx0
import Derived.Test.YtfijkimkdccioaaDoorQFnDialbackx2
import Derived.Test.YtfijkimkdccioaaDoorQFnDialbackx6
import Derived.Test.YtfijkimkdccioaaDoorQFnDialbackx7
namespace Go.Proofs.YtfijkimkdccioaaDoor.QFnDialback
open Go.RowKit Go.Proofs.YtfijkimkdccioaaDoorW.PrintWords Go.Proofs.YtfijkimkdccioaaDoorW.PrintLast Go.Proofs.YtfijkimkdccioaaDoorW.PrintMore
attribute [local go_sem] max2_int min2_int max_two min_two max_three min_three max_four min_four   -- for this text's walks alone
set_option linter.unusedVariables false
set_option linter.unusedSimpArgs false

abbrev zm0_12 : Array Bool := pm 0 12
abbrev zm1_12 : Array Bool := #[O,I,O,O,O,O,O,O,O,O,O,O]
abbrev zm2_12 : Array Bool := #[O,I,I,O,O,O,O,O,O,O,O,O]
abbrev zm3_12 : Array Bool := pm 3 9
abbrev zm4_12 : Array Bool := pm 7 5
abbrev zm5_12 : Array Bool := pm 6 6
abbrev zm6_12 : Array Bool := #[I,I,I,I,O,I,I,O,O,O,O,O]
abbrev zm7_12 : Array Bool := pm 5 7
abbrev zm8_12 : Array Bool := #[I,I,I,I,O,I,O,O,O,O,O,O]
abbrev zm9_12 : Array Bool := #[I,I,I,O,O,I,I,O,O,O,O,O]
abbrev zm10_12 : Array Bool := pm 4 8
abbrev zm11_12 : Array Bool := #[I,I,I,O,O,I,O,O,O,O,O,O]
abbrev zm12_12 : Array Bool := pm 8 4
abbrev zm13_12 : Array Bool := pm 9 3
abbrev zm14_12 : Array Bool := pm 10 2
abbrev zm15_12 : Array Bool := pm 11 1
abbrev zm16_12 : Array Bool := pm 12 0
theorem zb0_12 {P : Prop} (h : P := by repeat ((with_reducible (exact HB.out)))) : P := h
theorem zb1_12 {P : Prop} (h : P := by (try simp only [List.map_toArray, List.map_cons, List.map_nil]); rfl) : P := h
theorem zb2_12 {P : Prop} (h : P := by exact BK415.out) : P := h
theorem zb3_12 {P : Prop} (h : P := by repeat ((with_reducible (exact HB.out)))) : P := h
theorem zb4_12 {P : Prop} (h : P := by exact HO425.out) : P := h
theorem zb5_12 {P : Prop} (h : P := by repeat ((with_reducible (exact HB.out)))) : P := h
theorem zb6_12 {P : Prop} (h : P := by repeat ((with_reducible (exact HI420.out)))) : P := h
theorem zb7_12 {P : Prop} (h : P := by exact BK429.out) : P := h
theorem zb8_12 {P : Prop} (h : P := by (simp only [putAll, Act.put, List.setIfInBounds_toArray, List.set_cons_zero, List.set_cons_succ]; done)) : P := h
theorem zb9_12 {P : Prop} (h : P := by exact HO436.out) : P := h
theorem zb10_12 {P : Prop} (h : P := by exact HO439.out) : P := h
theorem zb11_12 {P : Prop} (h : P := by exact Kd.R_mono HO436.out (fun _ hk => hk.2)) : P := h
theorem zb12_12 {P : Prop} (h : P := by exact Kd.R_mono HO439.out (fun _ hk => hk.2)) : P := h
theorem zk0_12 {P : Prop} (h : P := by exact ⟨(blk_cell BK429.out 0).trans rfl, (blk_cell BK429.out 1).trans rfl, (blk_cell BK429.out 2).trans rfl⟩) : P := h
/-! ### spec_DrawDbResult: function 6 -/
def spec_DrawDbResult.f (k : Nat) (l0 : List Int) : Option (ByteArray × Int × (List (S43)) × Int × ByteArray) := (spec_l01Source.f k l0).bind fun bt416 => ((spec_l01Src_l06Dialback.f k bt416.1 bt416.2.1 bt416.2.2.1 bt416.2.2.2).bind fun bt421 => ((spec_l01Src_n.f bt416.1 bt421.2.2.2.1 bt421.2.2.2.2.1 bt421.2.2.2.2.2 6).bind fun bt430 => (if 64 ≤ 281474976710656 then (if 65 ≤ 281474976710656 then ((spec_l01Src_pick.f bt416.1 bt430.2.1 bt430.2.2.1 bt430.2.2.2 (([(⟨#[107]⟩ : ByteArray), (⟨#[107, 101, 121]⟩ : ByteArray), (⟨#[]⟩ : ByteArray), strOfNums (List.replicate 64 0), strOfNums (List.replicate 65 0)] : List ByteArray))).bind fun bt443 => (some (bt421.1, bt421.2.1, bt421.2.2.1, wrap64 (1 + bt430.1), bt443.1))) else (none)) else (none))))
theorem spec_DrawDbResult.mono : ∀ a0 k, LeO (spec_DrawDbResult.f k a0) (spec_DrawDbResult.f (k + 1) a0) := by
 intro a0 k
 unfold spec_DrawDbResult.f
 repeat' first
   | (with_reducible exact spec_l01Source.mono _ _)
   | (with_reducible exact spec_l01Src_l06Dialback.mono _ _ _ _ _)
   | (with_reducible exact LeO.refl _)
   | (with_reducible exact LeO.none _)
   | (with_reducible refine LeO.ite ?_ ?_)
   | (with_reducible refine LeO.bind ?_ (fun _ => ?_))
   | exact spec_l01Source.mono _ _
   | exact spec_l01Src_l06Dialback.mono _ _ _ _ _
   | exact LeO.none _
   | refine LeO.ite ?_ ?_
   | refine LeO.bind ?_ (fun _ => ?_)
def spec_DrawDbResult.T4 : Bool × List (List Nat × List Nat) := (true, [([], []), ([], []), ([], []), ([], []), ([3], [3]), ([], []), ([5], [5]), ([4, 6], [4, 6]), ([2, 7], [2, 7]), ([0, 8, 0], [0]), ([1, 9, 0, 1, 9], [1]), ([8, 10, 0, 1, 2, 3, 4, 5, 6, 7, 8, 9, 10], [8])])
def spec_DrawDbResult.B4 : List Nat := [0, 0, 0, 0, 8, 0, 32, 120, 252, 509, 1023, 2047]
theorem spec_DrawDbResult.tab4 : rtab .any (opsOf Tryd.f6 4) = spec_DrawDbResult.T4 := by kernel_rfl
theorem spec_DrawDbResult.bits4 : waitsOk spec_DrawDbResult.T4.2 spec_DrawDbResult.B4 = true := by kernel_rfl
set_option maxHeartbeats 8000000 in
set_option maxRecDepth 100000 in
theorem spec_DrawDbResult.calls (k : Nat) (A0 : Option Addr) (c0 : Nat) (l0 : List Int) (r1 : ByteArray) (r2 : Int) (r3 : List (S43)) (r4 : Int) (r5 : ByteArray) (w : World) (hr0 : Kd.C (Kd.int .u8) w A0 l0.length l0) (hc0 : l0.length ≤ c0) (h : spec_DrawDbResult.f k l0 = some (r1, r2, r3, r4, r5)) :
  Calls Tryd.prog 6 #[.slice A0 l0.length c0] w fun e w' => ∃ v2_ : Value, e = .returned (.tuple #[.agg #[.string r1, .int .i64 r2, v2_], .int .i64 r4, .string r5]) ∧ Kd.R k43 43 w' w.heap.size (fun _ => True) v2_ r3 ∧ Below w.heap.size w w' := by
 have hu25 := Tryd.underlying25
 have HR0 := Aside0.mk hr0
 have HC0 := Aside0.mk hc0
 clear hr0 hc0
 have HB := Aside0.mk (Below.refl w.heap.size w)
 have H : ((spec_l01Source.f k l0).bind fun bt416 => ((spec_l01Src_l06Dialback.f k bt416.1 bt416.2.1 bt416.2.2.1 bt416.2.2.2).bind fun bt421 => ((spec_l01Src_n.f bt416.1 bt421.2.2.2.1 bt421.2.2.2.2.1 bt421.2.2.2.2.2 6).bind fun bt430 => (if 64 ≤ 281474976710656 then (if 65 ≤ 281474976710656 then ((spec_l01Src_pick.f bt416.1 bt430.2.1 bt430.2.2.1 bt430.2.2.2 (([(⟨#[107]⟩ : ByteArray), (⟨#[107, 101, 121]⟩ : ByteArray), (⟨#[]⟩ : ByteArray), strOfNums (List.replicate 64 0), strOfNums (List.replicate 65 0)] : List ByteArray))).bind fun bt443 => (some (bt421.1, bt421.2.1, bt421.2.2.1, wrap64 (1 + bt430.1), bt443.1))) else (none)) else (none))))) = some (r1, r2, r3, r4, r5) := h
 clear h
 replace H := Option.bind_eq_some_iff.mp H
 obtain ⟨⟨t416, t417, t418, t419⟩, A20, H⟩ := H
 (try dsimp -simprocs only at H)
 have A2 := Aside0.mk A20
 clear A20
 replace H := Option.bind_eq_some_iff.mp H
 obtain ⟨⟨t421, t422, t423, t426, t427, t428⟩, A30, H⟩ := H
 (try dsimp -simprocs only at H)
 have A3 := Aside0.mk A30
 clear A30
 replace H := Option.bind_eq_some_iff.mp H
 obtain ⟨⟨t430, t431, t432, t433⟩, A40, H⟩ := H
 (try dsimp -simprocs only at H)
 have A4 := Aside0.mk A40
 clear A40
 by_cases c5 : 64 ≤ 281474976710656
 rotate_left
 · rw [if_neg c5] at H; exact absurd H (by simp)
 rw [if_pos c5] at H
 have c5b0 := eq_true c5
 have c5b1 := decide_eq_true c5
 clear c5
 obtain ⟨y434, hy434⟩ : ∃ y_ : List Int, y_ = (List.replicate 64 0) := ⟨_, rfl⟩
 replace H : (if 65 ≤ 281474976710656 then ((spec_l01Src_pick.f t416 t431 t432 t433 (([(⟨#[107]⟩ : ByteArray), (⟨#[107, 101, 121]⟩ : ByteArray), (⟨#[]⟩ : ByteArray), strOfNums y434, strOfNums (List.replicate 65 0)] : List ByteArray))).bind fun bt443 => (some (t421, t422, t423, wrap64 (1 + t430), bt443.1))) else (none)) = some (r1, r2, r3, r4, r5) := by (rw [hy434]; with_reducible exact H)
 have Ny434 := Aside0.mk hy434
 clear hy434
 by_cases c6 : 65 ≤ 281474976710656
 rotate_left
 · rw [if_neg c6] at H; exact absurd H (by simp)
 rw [if_pos c6] at H
 have c6b0 := eq_true c6
 have c6b1 := decide_eq_true c6
 clear c6
 obtain ⟨y437, hy437⟩ : ∃ y_ : List Int, y_ = (List.replicate 65 0) := ⟨_, rfl⟩
 replace H : ((spec_l01Src_pick.f t416 t431 t432 t433 (([(⟨#[107]⟩ : ByteArray), (⟨#[107, 101, 121]⟩ : ByteArray), (⟨#[]⟩ : ByteArray), strOfNums y434, strOfNums y437] : List ByteArray))).bind fun bt443 => (some (t421, t422, t423, wrap64 (1 + t430), bt443.1))) = some (r1, r2, r3, r4, r5) := by (rw [hy437]; with_reducible exact H)
 have Ny437 := Aside0.mk hy437
 clear hy437
 obtain ⟨y440, hy440⟩ : ∃ y_ : List ByteArray, y_ = (([(⟨#[107]⟩ : ByteArray), (⟨#[107, 101, 121]⟩ : ByteArray), (⟨#[]⟩ : ByteArray), strOfNums y434, strOfNums y437] : List ByteArray)) := ⟨_, rfl⟩
 replace H : ((spec_l01Src_pick.f t416 t431 t432 t433 y440).bind fun bt443 => (some (t421, t422, t423, wrap64 (1 + t430), bt443.1))) = some (r1, r2, r3, r4, r5) := by (rw [hy440]; with_reducible exact H)
 have Ny440 := Aside0.mk hy440
 clear hy440
 replace H := Option.bind_eq_some_iff.mp H
 obtain ⟨⟨t443, t444, t445, t446⟩, A70, H⟩ := H
 (try dsimp -simprocs only at H)
 have A7 := Aside0.mk A70
 clear A70
 simp only [Option.some.injEq, Prod.mk.injEq] at H
 obtain ⟨rfl, rfl, rfl, rfl, rfl⟩ := H
 go_enter Tryd.func6, Tryd.ntmps6
 try go_wp2_with (first | ((with_reducible refine gate_dst (N := 2) rfl ?_); refine box_event ?hg (N := 2) ?hd (cs := #[.string (⟨#[]⟩ : ByteArray), .int .i64 0, .slice none 0 0]) (t := 25) ?hr ?_; (case hd => rfl); (case hg => rfl); (case hr => (go_simp; done)); intro gb415 hg w8 hbox hb; have BK415 := Aside0.mk (hbox); have GW415 := Aside0.mk ((by rw [hg]; exact (below_size zb0_12) : w.heap.size ≤ gb415)); have GE415 := Aside0.mk ((by rw [hg]; exact (below_size zb0_12) : w.heap.size ≤ gb415)); replace HB := Aside0.mk (below_step zb0_12 hb); clear hb hbox hg) | ((with_reducible refine gate_callee (f := 19) rfl ?_); refine goesL_ (some 9) rfl rfl Tryd.func19 (by kernel_rfl) rfl #[.slice A0 l0.length c0] rfl zb1_12 ?_; (with_reducible refine (spec_l01Source.calls k _ _ l0 t416 t417 t418 t419 w _ ?side1 ?side2 ?side3 A2.out).mono ?_); (case side1 => repeat ((with_reducible (exact HB.out)))); (case side2 => exact HR0.out); (case side3 => exact HC0.out); rintro e w9 ⟨g420, rfl, hi, hb, hb2⟩; refine ⟨_, rfl, ?_⟩; replace HB := Aside0.mk (hb); have HI420 := Aside0.mk (hi); have NB420_415 := Aside0.mk (IsS60.ne_blk hi (blk_below (g := gb415) (o := .cells #[.string (⟨#[]⟩ : ByteArray), .int .i64 0, .slice none 0 0] 25 (0, 0)) zb2_12 hb2) (by decide)); have NB415_420 := Aside0.mk (Ne.symm (IsS60.ne_blk hi (blk_below (g := gb415) (o := .cells #[.string (⟨#[]⟩ : ByteArray), .int .i64 0, .slice none 0 0] 25 (0, 0)) zb2_12 hb2) (by decide))); replace BK415 := Aside0.mk (blk_below (g := gb415) (o := .cells #[.string (⟨#[]⟩ : ByteArray), .int .i64 0, .slice none 0 0] 25 (0, 0)) zb2_12 hb2); (try clear hb); (try clear hb2); (try clear hi)) | ((with_reducible refine gate_callee (f := 20) rfl ?_); refine goesL_ (some 11) rfl rfl Tryd.func20 (by kernel_rfl) rfl #[.pointer (some ⟨g420, 0, none⟩)] rfl zb1_12 ?_; (with_reducible refine (spec_l01Src_l06Dialback.calls k g420 t416 t417 t418 t419 t421 t422 t423 t426 t427 t428 w _ ?side1 ?side2 A3.out).mono ?_); (case side1 => repeat ((with_reducible (exact HI420.out)))); (case side2 => repeat ((with_reducible (exact HB.out)))); rintro e w10 ⟨v424, rfl, ho0, hi, hb, hk⟩; refine ⟨_, rfl, ?_⟩; replace BK415 := Aside0.mk (KeepBut.blk hk (g' := gb415) (o := .cells #[.string (⟨#[]⟩ : ByteArray), .int .i64 0, .slice none 0 0] 25 (0, 0)) zb2_12 NB415_420.out (by simp)); have HO425 := Aside0.mk (Kd.R_lower ho0 (below_size zb3_12)); replace HB := Aside0.mk (hb); replace HI420 := Aside0.mk (hi); (try clear hb); (try clear hk); (try clear hi); (try clear ho0)) | ((with_reducible refine gate_dst (N := 6) rfl ?_); refine box_event ?hg (N := 6) ?hd (cs := #[.string (⟨#[]⟩ : ByteArray), .int .i64 0, .slice none 0 0]) (t := 25) ?hr ?_; (case hd => rfl); (case hg => rfl); (case hr => (go_simp; done)); intro gb429 hg w11 hbox hb; replace HO425 := Aside0.mk (Kd.R_below zb4_12 hb); have BK429 := Aside0.mk (hbox); have GW429 := Aside0.mk ((by rw [hg]; exact (below_size zb3_12) : w.heap.size ≤ gb429)); have GE429 := Aside0.mk ((by rw [hg]; exact (below_size zb3_12) : w.heap.size ≤ gb429)); replace HB := Aside0.mk (below_step zb3_12 hb); have NB415_429 := Aside0.mk ((by rw [hg]; exact Nat.ne_of_lt (blk_lt (g := gb415) (o := .cells #[.string (⟨#[]⟩ : ByteArray), .int .i64 0, .slice none 0 0] 25 (0, 0)) zb2_12) : gb415 ≠ gb429)); have NB429_415 := Aside0.mk ((by rw [hg]; exact Nat.ne_of_gt (blk_lt (g := gb415) (o := .cells #[.string (⟨#[]⟩ : ByteArray), .int .i64 0, .slice none 0 0] 25 (0, 0)) zb2_12) : gb429 ≠ gb415)); replace BK415 := bkb BK415 hb; have NB420_429 := Aside0.mk ((by rw [hg]; exact Nat.ne_of_lt (IsS60.lt (show IsS60 w _ g420 t416 t426 t427 t428 from by repeat ((with_reducible (exact HI420.out))))) : g420 ≠ gb429)); have NB429_420 := Aside0.mk ((by rw [hg]; exact Nat.ne_of_gt (IsS60.lt (show IsS60 w _ g420 t416 t426 t427 t428 from by repeat ((with_reducible (exact HI420.out))))) : gb429 ≠ g420)); replace HI420 := Aside0.mk (IsS60.below (by repeat ((with_reducible (exact HI420.out)))) hb); clear hb hbox hg; have hnb12 := NB429_415.out; have hnc12 := NB415_429.out; have hnb13 := NB429_420.out; have hnc13 := NB420_429.out; have hcz14_0 : w11.cell? ⟨gb429, 0, none⟩ = some (.string (⟨#[]⟩ : ByteArray)) := (blk_cell BK429.out 0).trans rfl; have hcz14_1 : w11.cell? ⟨gb429, 1, none⟩ = some (.int .i64 0) := (blk_cell BK429.out 1).trans rfl; have hcz14_2 : w11.cell? ⟨gb429, 2, none⟩ = some (.slice none 0 0) := (blk_cell BK429.out 2).trans rfl; have hfz14_0 := blk_frozen BK429.out 0; have hfz14_1 := blk_frozen BK429.out 1; have hfz14_2 := blk_frozen BK429.out 2; obtain ⟨Ao15, co15, eo15⟩ := Kd.R_slice HO425.out; subst eo15) | ((with_reducible refine gate_callee (f := 25) rfl ?_); refine goesL_ (some 13) rfl rfl Tryd.func25 (by kernel_rfl) rfl #[.pointer (some ⟨g420, 0, none⟩), .int .i64 6] rfl zb1_12 ?_; (with_reducible refine (spec_l01Src_n.calls g420 t416 t426 t427 t428 6 t430 t431 t432 t433 w _ ?side1 ?side2 A4.out).mono ?_); (case side1 => repeat ((with_reducible first | exact HI420.out | refine IsS60.far ?_ NB420_429.out _))); (case side2 => repeat ((with_reducible first | exact HB.out | refine below_set ?_ GE429.out))); rintro e w16 ⟨rfl, hi, hb, hk⟩; refine ⟨_, rfl, ?_⟩; replace BK415 := Aside0.mk (KeepBut.blk hk (g' := gb415) (o := .cells #[.string (⟨#[]⟩ : ByteArray), .int .i64 0, .slice none 0 0] 25 (0, 0)) (by refine blk_far ?_ NB415_429.out _; refine blk_far ?_ NB415_429.out _; refine blk_far ?_ NB415_429.out _; exact BK415.out) NB415_420.out (by simp)); replace HO425 := Aside0.mk (Kd.R_mono (Kd.R_keep (IsS60.apart (show IsS60 w _ g420 t416 t426 t427 t428 from by repeat ((with_reducible first | exact HI420.out | refine IsS60.far ?_ NB420_429.out _))) (by exact (Kd.R_mono (rfa (rfa (rfa (Kd.R_types HO425.out BK429.out (by decide)) (fun _ h => h.2)) (fun _ h => h.2)) (fun _ h => h.2)) (fun _ h_ => h_.1))) (by decide)) hk (fun _ h => h.2)) (fun _ h => h.1)); replace BK429 := Aside0.mk (KeepBut.blk hk (g' := gb429) (o := .cells #[.string t421, .int .i64 t422, .slice Ao15 t423.length co15] 25 (0, 0)) (by apply bp3; exact BK429.out) NB429_420.out (by simp)); replace HB := Aside0.mk (hb); replace HI420 := Aside0.mk (hi); (try clear hb); (try clear hk); (try clear hi)))
 replace HO425 := Aside0.mk (Kd.R_drew HO425.out)
 replace BK415 := Aside0.mk (blk_drew BK415.out)
 replace BK429 := Aside0.mk (blk_drew BK429.out)
 replace HI420 := Aside0.mk (IsS60.drew HI420.out)
 replace HB := Aside0.mk (below_drew1 HB.out)
 refine start_ (n := 12) (S := fun w' => w'.cell? ⟨gb429, 0, none⟩ = some (.string t421) ∧ w'.cell? ⟨gb429, 1, none⟩ = some (.int .i64 t422) ∧ w'.cell? ⟨gb429, 2, none⟩ = some (.slice Ao15 t423.length co15)) (ds := []) zm0_12 (by kernel_rfl) rfl rfl ⟨(blk_cell BK429.out 0).trans rfl, (blk_cell BK429.out 1).trans rfl, (blk_cell BK429.out 2).trans rfl⟩ (fun hHeld => ?_); refine with_tabW spec_DrawDbResult.tab4 spec_DrawDbResult.bits4 (fun HT_ HW_ => ?_)
 generalize w16.drew = w17 at HO425 BK415 BK429 HI420 HB hHeld ⊢
 refine zp 1 (some 16) zm1_12 HT_ ?_
 refine zp 2 (some 17) zm2_12 HT_ ?_
 refine zt 0 (some 15) zm3_12 HT_ HW_ hHeld ?_
 refine join_ (σ := Value × Value) 5 zm4_12 (fun s_ => [(18, s_.1), (19, .string (strOfNums y434)), (20, s_.2), (21, .string (strOfNums y437))]) (fun s_ w' => (w'.cell? ⟨gb429, 0, none⟩ = some (.string t421) ∧ w'.cell? ⟨gb429, 1, none⟩ = some (.int .i64 t422) ∧ w'.cell? ⟨gb429, 2, none⟩ = some (.slice Ao15 t423.length co15)) ∧ (Kd.R k43 43 w' w.heap.size (fun _ => True) (.slice Ao15 t423.length co15) t423) ∧ (Kd.R (Kd.int .u8) 5 w' w.heap.size (fun k_ => some k_ ≠ (s_.2 : Value).ownBlock) s_.1 y434) ∧ (Kd.R (Kd.int .u8) 5 w' w.heap.size (fun k_ => some k_ ≠ (s_.1 : Value).ownBlock) s_.2 y437) ∧ (w'.heap[gb415]? = some (.cells #[.string (⟨#[]⟩ : ByteArray), .int .i64 0, .slice none 0 0] 25 (0, 0))) ∧ (w'.heap[gb429]? = some (.cells #[.string t421, .int .i64 t422, .slice Ao15 t423.length co15] 25 (0, 0))) ∧ (IsS60 w w' g420 t416 t431 t432 t433) ∧ (Below w.heap.size w w')) ?_ ?_
 rotate_left
 ·
  intro hJ3_4_5_6
  refine join_ (σ := Value × Value) 6 zm5_12 (fun s_ => [(18, s_.1), (19, .string (strOfNums y434)), (20, s_.2)]) (fun s_ w' => (w'.cell? ⟨gb429, 0, none⟩ = some (.string t421) ∧ w'.cell? ⟨gb429, 1, none⟩ = some (.int .i64 t422) ∧ w'.cell? ⟨gb429, 2, none⟩ = some (.slice Ao15 t423.length co15)) ∧ (Kd.R k43 43 w' w.heap.size (fun _ => True) (.slice Ao15 t423.length co15) t423) ∧ (Kd.R (Kd.int .u8) 5 w' w.heap.size (fun k_ => some k_ ≠ (s_.2 : Value).ownBlock) s_.1 y434) ∧ (Kd.R (Kd.int .u8) 5 w' w.heap.size (fun k_ => some k_ ≠ (s_.1 : Value).ownBlock) s_.2 y437) ∧ (w'.heap[gb415]? = some (.cells #[.string (⟨#[]⟩ : ByteArray), .int .i64 0, .slice none 0 0] 25 (0, 0))) ∧ (w'.heap[gb429]? = some (.cells #[.string t421, .int .i64 t422, .slice Ao15 t423.length co15] 25 (0, 0))) ∧ (IsS60 w w' g420 t416 t431 t432 t433) ∧ (Below w.heap.size w w')) ?_ ?_
  rotate_left
  ·
   intro hJ3_4_5
   refine join_ (σ := Value × Value) 6 zm6_12 (fun s_ => [(18, s_.1), (20, s_.2), (21, .string (strOfNums y437))]) (fun s_ w' => (w'.cell? ⟨gb429, 0, none⟩ = some (.string t421) ∧ w'.cell? ⟨gb429, 1, none⟩ = some (.int .i64 t422) ∧ w'.cell? ⟨gb429, 2, none⟩ = some (.slice Ao15 t423.length co15)) ∧ (Kd.R k43 43 w' w.heap.size (fun _ => True) (.slice Ao15 t423.length co15) t423) ∧ (Kd.R (Kd.int .u8) 5 w' w.heap.size (fun k_ => some k_ ≠ (s_.2 : Value).ownBlock) s_.1 y434) ∧ (Kd.R (Kd.int .u8) 5 w' w.heap.size (fun k_ => some k_ ≠ (s_.1 : Value).ownBlock) s_.2 y437) ∧ (w'.heap[gb415]? = some (.cells #[.string (⟨#[]⟩ : ByteArray), .int .i64 0, .slice none 0 0] 25 (0, 0))) ∧ (w'.heap[gb429]? = some (.cells #[.string t421, .int .i64 t422, .slice Ao15 t423.length co15] 25 (0, 0))) ∧ (IsS60 w w' g420 t416 t431 t432 t433) ∧ (Below w.heap.size w w')) ?_ ?_
   rotate_left
   ·
    intro hJ3_5_6
    refine join_ (σ := Value) 7 zm7_12 (fun s_ => [(18, s_), (19, .string (strOfNums y434))]) (fun s_ w' => (w'.cell? ⟨gb429, 0, none⟩ = some (.string t421) ∧ w'.cell? ⟨gb429, 1, none⟩ = some (.int .i64 t422) ∧ w'.cell? ⟨gb429, 2, none⟩ = some (.slice Ao15 t423.length co15)) ∧ (Kd.R k43 43 w' w.heap.size (fun _ => True) (.slice Ao15 t423.length co15) t423) ∧ (Kd.R (Kd.int .u8) 5 w' w.heap.size (fun _ => True) s_ y434) ∧ (w'.heap[gb415]? = some (.cells #[.string (⟨#[]⟩ : ByteArray), .int .i64 0, .slice none 0 0] 25 (0, 0))) ∧ (w'.heap[gb429]? = some (.cells #[.string t421, .int .i64 t422, .slice Ao15 t423.length co15] 25 (0, 0))) ∧ (IsS60 w w' g420 t416 t431 t432 t433) ∧ (Below w.heap.size w w')) ?_ ?_
    rotate_left
    ·
     intro hJ3_4
     refine join_ (σ := Value × Value) 7 zm8_12 (fun s_ => [(18, s_.1), (20, s_.2)]) (fun s_ w' => (w'.cell? ⟨gb429, 0, none⟩ = some (.string t421) ∧ w'.cell? ⟨gb429, 1, none⟩ = some (.int .i64 t422) ∧ w'.cell? ⟨gb429, 2, none⟩ = some (.slice Ao15 t423.length co15)) ∧ (Kd.R k43 43 w' w.heap.size (fun _ => True) (.slice Ao15 t423.length co15) t423) ∧ (Kd.R (Kd.int .u8) 5 w' w.heap.size (fun k_ => some k_ ≠ (s_.2 : Value).ownBlock) s_.1 y434) ∧ (Kd.R (Kd.int .u8) 5 w' w.heap.size (fun k_ => some k_ ≠ (s_.1 : Value).ownBlock) s_.2 y437) ∧ (w'.heap[gb415]? = some (.cells #[.string (⟨#[]⟩ : ByteArray), .int .i64 0, .slice none 0 0] 25 (0, 0))) ∧ (w'.heap[gb429]? = some (.cells #[.string t421, .int .i64 t422, .slice Ao15 t423.length co15] 25 (0, 0))) ∧ (IsS60 w w' g420 t416 t431 t432 t433) ∧ (Below w.heap.size w w')) ?_ ?_
     rotate_left
     ·
      intro hJ3_5
      refine join_ (σ := Value) 7 zm9_12 (fun s_ => [(20, s_), (21, .string (strOfNums y437))]) (fun s_ w' => (w'.cell? ⟨gb429, 0, none⟩ = some (.string t421) ∧ w'.cell? ⟨gb429, 1, none⟩ = some (.int .i64 t422) ∧ w'.cell? ⟨gb429, 2, none⟩ = some (.slice Ao15 t423.length co15)) ∧ (Kd.R k43 43 w' w.heap.size (fun _ => True) (.slice Ao15 t423.length co15) t423) ∧ (Kd.R (Kd.int .u8) 5 w' w.heap.size (fun _ => True) s_ y437) ∧ (w'.heap[gb415]? = some (.cells #[.string (⟨#[]⟩ : ByteArray), .int .i64 0, .slice none 0 0] 25 (0, 0))) ∧ (w'.heap[gb429]? = some (.cells #[.string t421, .int .i64 t422, .slice Ao15 t423.length co15] 25 (0, 0))) ∧ (IsS60 w w' g420 t416 t431 t432 t433) ∧ (Below w.heap.size w w')) ?_ ?_
      rotate_left
      ·
       intro hJ5_6
       refine join_ (σ := Value) 8 zm10_12 (fun s_ => [(18, s_)]) (fun s_ w' => (w'.cell? ⟨gb429, 0, none⟩ = some (.string t421) ∧ w'.cell? ⟨gb429, 1, none⟩ = some (.int .i64 t422) ∧ w'.cell? ⟨gb429, 2, none⟩ = some (.slice Ao15 t423.length co15)) ∧ (Kd.R k43 43 w' w.heap.size (fun _ => True) (.slice Ao15 t423.length co15) t423) ∧ (Kd.R (Kd.int .u8) 5 w' w.heap.size (fun _ => True) s_ y434) ∧ (w'.heap[gb415]? = some (.cells #[.string (⟨#[]⟩ : ByteArray), .int .i64 0, .slice none 0 0] 25 (0, 0))) ∧ (w'.heap[gb429]? = some (.cells #[.string t421, .int .i64 t422, .slice Ao15 t423.length co15] 25 (0, 0))) ∧ (IsS60 w w' g420 t416 t431 t432 t433) ∧ (Below w.heap.size w w')) ?_ ?_
       rotate_left
       ·
        intro hJ3
        refine join_ (σ := Value) 8 zm11_12 (fun s_ => [(20, s_)]) (fun s_ w' => (w'.cell? ⟨gb429, 0, none⟩ = some (.string t421) ∧ w'.cell? ⟨gb429, 1, none⟩ = some (.int .i64 t422) ∧ w'.cell? ⟨gb429, 2, none⟩ = some (.slice Ao15 t423.length co15)) ∧ (Kd.R k43 43 w' w.heap.size (fun _ => True) (.slice Ao15 t423.length co15) t423) ∧ (Kd.R (Kd.int .u8) 5 w' w.heap.size (fun _ => True) s_ y437) ∧ (w'.heap[gb415]? = some (.cells #[.string (⟨#[]⟩ : ByteArray), .int .i64 0, .slice none 0 0] 25 (0, 0))) ∧ (w'.heap[gb429]? = some (.cells #[.string t421, .int .i64 t422, .slice Ao15 t423.length co15] 25 (0, 0))) ∧ (IsS60 w w' g420 t416 t431 t432 t433) ∧ (Below w.heap.size w w')) ?_ ?_
        rotate_left
        ·
         intro hJ5
         refine two_ (i := 3) (j := 5) (Ni := some 18) (Nj := some 20) zm10_12 zm11_12 rfl rfl rfl rfl (two_of HT_.out (by kernel_rfl)) (by decide) (by decide) (fun K hK => ?_) (fun K hK => ?_)
         ·
          refine Kd.R_make_step (Kd.int .u8) _ 5 (by rfl) (N := 18) rfl 22 _ _ rfl 64 rfl rfl Tryd.underlying22 (.int .u8 0) 1 info5 rfl (by decide) (by omega) 0 (ok := fun _ => True) (okp := fun _ => True) rfl (fun _ hk => hk) trivial (by omega) (by omega) (Below.refl _ _) (Nat.le_refl _) ?_
          intro v435 w18 ho19 hb hg_ hnew_
          clear hg_ hnew_
          ((simp only [Int.reduceToNat] at ho19; rw [← Ny434.out] at ho19))
          replace HO425 := Aside0.mk (Kd.R_below zb4_12 hb)
          have HO436 := Aside0.mk (Kd.R_lower ho19 (below_size zb5_12))
          replace BK415 := bkb BK415 hb
          replace HI420 := Aside0.mk (IsS60.below zb6_12 hb)
          replace BK429 := bkb BK429 hb
          replace HB := Aside0.mk (below_step zb5_12 hb)
          clear hb ho19
          refine hK.out _ _ zk0_12 (fun hHeld => ?_)
          clear hK K
          refine zn (some 18) ?_
          exact norm_ zb8_12 (hJ3 (v435) _ ⟨hHeld, zb4_12, zb9_12, zb2_12, zb7_12, zb6_12, zb5_12⟩)
         ·
          refine Kd.R_make_step (Kd.int .u8) _ 5 (by rfl) (N := 20) rfl 22 _ _ rfl 65 rfl rfl Tryd.underlying22 (.int .u8 0) 1 info5 rfl (by decide) (by omega) 0 (ok := fun _ => True) (okp := fun _ => True) rfl (fun _ hk => hk) trivial (by omega) (by omega) (Below.refl _ _) (Nat.le_refl _) ?_
          intro v438 w18 ho19 hb hg_ hnew_
          clear hg_ hnew_
          ((simp only [Int.reduceToNat] at ho19; rw [← Ny437.out] at ho19))
          replace HO425 := Aside0.mk (Kd.R_below zb4_12 hb)
          have HO439 := Aside0.mk (Kd.R_lower ho19 (below_size zb5_12))
          replace BK415 := bkb BK415 hb
          replace HI420 := Aside0.mk (IsS60.below zb6_12 hb)
          replace BK429 := bkb BK429 hb
          replace HB := Aside0.mk (below_step zb5_12 hb)
          clear hb ho19
          refine hK.out _ _ zk0_12 (fun hHeld => ?_)
          clear hK K
          refine zn (some 20) ?_
          exact norm_ zb8_12 (hJ5 (v438) _ ⟨hHeld, zb4_12, zb10_12, zb2_12, zb7_12, zb6_12, zb5_12⟩)
        ·
         rintro v438 w20 ⟨hS_, h0_, h1_, h2_, h3_, h4_, h5_⟩
         have n0_ : Aside0 (Kd.R k43 43 w20 w.heap.size (fun _ => True) (.slice Ao15 t423.length co15) t423) := ⟨h0_⟩
         have n1_ : Aside0 (Kd.R (Kd.int .u8) 5 w20 w.heap.size (fun _ => True) v438 y437) := ⟨h1_⟩
         have n2_ : Aside0 (w20.heap[gb415]? = some (.cells #[.string (⟨#[]⟩ : ByteArray), .int .i64 0, .slice none 0 0] 25 (0, 0))) := ⟨h2_⟩
         have n3_ : Aside0 (w20.heap[gb429]? = some (.cells #[.string t421, .int .i64 t422, .slice Ao15 t423.length co15] 25 (0, 0))) := ⟨h3_⟩
         have n4_ : Aside0 (IsS60 w w20 g420 t416 t431 t432 t433) := ⟨h4_⟩
         have n5_ : Aside0 (Below w.heap.size w w20) := ⟨h5_⟩
         clear HO425
         clear BK415
         clear BK429
         clear HI420
         clear HB
         clear h0_ h1_ h2_ h3_ h4_ h5_
         have HO425 := n0_
         have HO439 := n1_
         have BK415 := n2_
         have BK429 := n3_
         have HI420 := n4_
         have HB := n5_
         clear n0_ n1_ n2_ n3_ n4_ n5_
         have hHeld : w20.cell? ⟨gb429, 0, none⟩ = some (.string t421) ∧ w20.cell? ⟨gb429, 1, none⟩ = some (.int .i64 t422) ∧ w20.cell? ⟨gb429, 2, none⟩ = some (.slice Ao15 t423.length co15) := hS_
         refine norm_ (a' := ?_) ?_ ?_
         rotate_left
         · simp only [putAll, Act.put, List.setIfInBounds_toArray, List.set_cons_zero, List.set_cons_succ]; rfl
         refine two_ (i := 3) (j := 6) (Ni := some 18) (Nj := some 21) zm8_12 zm9_12 rfl rfl rfl rfl (two_of HT_.out (by kernel_rfl)) (by decide) (by decide) (fun K hK => ?_) (fun K hK => ?_)
         ·
          refine Kd.R_make_step (Kd.int .u8) _ 5 (by rfl) (N := 18) rfl 22 _ _ rfl 64 rfl rfl Tryd.underlying22 (.int .u8 0) 1 info5 rfl (by decide) (by omega) 0 (ok := fun _ => True) (okp := fun _ => True) rfl (fun _ hk => hk) trivial (by omega) (by omega) (Below.refl _ _) (Nat.le_refl _) ?_
          intro v435 w21 ho22 hb hg_ hnew_
          clear hg_ hnew_
          ((simp only [Int.reduceToNat] at ho22; rw [← Ny434.out] at ho22))
          replace HO425 := Aside0.mk (Kd.R_below zb4_12 hb)
          have HO436 := Aside0.mk (Kd.R_lower (Kd.R_new' ho22 (Kd.R_lt zb10_12)) (below_size zb5_12))
          replace HO439 := Aside0.mk (Kd.R_elder' zb10_12 (Kd.R_base ho22) hb)
          replace BK415 := bkb BK415 hb
          replace HI420 := Aside0.mk (IsS60.below zb6_12 hb)
          replace BK429 := bkb BK429 hb
          replace HB := Aside0.mk (below_step zb5_12 hb)
          clear hb ho22
          refine hK.out _ _ zk0_12 (fun hHeld => ?_)
          clear hK K
          refine zn (some 18) ?_
          exact norm_ zb8_12 (hJ3_5 (v435, v438) _ ⟨hHeld, zb4_12, zb11_12, zb12_12, zb2_12, zb7_12, zb6_12, zb5_12⟩)
         ·
          have hcv21 := own_string (P := Tryd.prog) Tryd.underlying22 Tryd.underlying5 Tryd.underlying9 (Kd.own_of_R HO439.out)
          refine value_ (w1 := ?_) (v := ?_) (by rfl) rfl ?_ ?_
          rotate_left 2
          ·
           go_simp
           constructor
           · rfl
           · rfl
          clear hcv21
          refine hK.out _ _ zk0_12 (fun hHeld => ?_)
          clear hK K
          refine zn (some 21) ?_
          exact norm_ zb8_12 (hJ5_6 (v438) _ ⟨hHeld, zb4_12, zb10_12, zb2_12, zb7_12, zb6_12, zb5_12⟩)
       ·
        rintro v435 w20 ⟨hS_, h0_, h1_, h2_, h3_, h4_, h5_⟩
        have n0_ : Aside0 (Kd.R k43 43 w20 w.heap.size (fun _ => True) (.slice Ao15 t423.length co15) t423) := ⟨h0_⟩
        have n1_ : Aside0 (Kd.R (Kd.int .u8) 5 w20 w.heap.size (fun _ => True) v435 y434) := ⟨h1_⟩
        have n2_ : Aside0 (w20.heap[gb415]? = some (.cells #[.string (⟨#[]⟩ : ByteArray), .int .i64 0, .slice none 0 0] 25 (0, 0))) := ⟨h2_⟩
        have n3_ : Aside0 (w20.heap[gb429]? = some (.cells #[.string t421, .int .i64 t422, .slice Ao15 t423.length co15] 25 (0, 0))) := ⟨h3_⟩
        have n4_ : Aside0 (IsS60 w w20 g420 t416 t431 t432 t433) := ⟨h4_⟩
        have n5_ : Aside0 (Below w.heap.size w w20) := ⟨h5_⟩
        clear HO425
        clear BK415
        clear BK429
        clear HI420
        clear HB
        clear h0_ h1_ h2_ h3_ h4_ h5_
        have HO425 := n0_
        have HO436 := n1_
        have BK415 := n2_
        have BK429 := n3_
        have HI420 := n4_
        have HB := n5_
        clear n0_ n1_ n2_ n3_ n4_ n5_
        have hHeld : w20.cell? ⟨gb429, 0, none⟩ = some (.string t421) ∧ w20.cell? ⟨gb429, 1, none⟩ = some (.int .i64 t422) ∧ w20.cell? ⟨gb429, 2, none⟩ = some (.slice Ao15 t423.length co15) := hS_
        refine norm_ (a' := ?_) ?_ ?_
        rotate_left
        · simp only [putAll, Act.put, List.setIfInBounds_toArray, List.set_cons_zero, List.set_cons_succ]; rfl
        refine two_ (i := 4) (j := 5) (Ni := some 19) (Nj := some 20) zm7_12 zm8_12 rfl rfl rfl rfl (two_of HT_.out (by kernel_rfl)) (by decide) (by decide) (fun K hK => ?_) (fun K hK => ?_)
        ·
         have hcv21 := own_string (P := Tryd.prog) Tryd.underlying22 Tryd.underlying5 Tryd.underlying9 (Kd.own_of_R HO436.out)
         refine value_ (w1 := ?_) (v := ?_) (by rfl) rfl ?_ ?_
         rotate_left 2
         ·
          go_simp
          constructor
          · rfl
          · rfl
         clear hcv21
         refine hK.out _ _ zk0_12 (fun hHeld => ?_)
         clear hK K
         refine zn (some 19) ?_
         exact norm_ zb8_12 (hJ3_4 (v435) _ ⟨hHeld, zb4_12, zb9_12, zb2_12, zb7_12, zb6_12, zb5_12⟩)
        ·
         refine Kd.R_make_step (Kd.int .u8) _ 5 (by rfl) (N := 20) rfl 22 _ _ rfl 65 rfl rfl Tryd.underlying22 (.int .u8 0) 1 info5 rfl (by decide) (by omega) 0 (ok := fun _ => True) (okp := fun _ => True) rfl (fun _ hk => hk) trivial (by omega) (by omega) (Below.refl _ _) (Nat.le_refl _) ?_
         intro v438 w21 ho22 hb hg_ hnew_
         clear hg_ hnew_
         ((simp only [Int.reduceToNat] at ho22; rw [← Ny437.out] at ho22))
         replace HO425 := Aside0.mk (Kd.R_below zb4_12 hb)
         have HO439 := Aside0.mk (Kd.R_lower (Kd.R_new' ho22 (Kd.R_lt zb9_12)) (below_size zb5_12))
         replace HO436 := Aside0.mk (Kd.R_elder' zb9_12 (Kd.R_base ho22) hb)
         replace BK415 := bkb BK415 hb
         replace HI420 := Aside0.mk (IsS60.below zb6_12 hb)
         replace BK429 := bkb BK429 hb
         replace HB := Aside0.mk (below_step zb5_12 hb)
         clear hb ho22
         refine hK.out _ _ zk0_12 (fun hHeld => ?_)
         clear hK K
         refine zn (some 20) ?_
         exact norm_ zb8_12 (hJ3_5 (v435, v438) _ ⟨hHeld, zb4_12, zb11_12, zb12_12, zb2_12, zb7_12, zb6_12, zb5_12⟩)
      ·
       rintro v438 w21 ⟨hS_, h0_, h1_, h2_, h3_, h4_, h5_⟩
       have n0_ : Aside0 (Kd.R k43 43 w21 w.heap.size (fun _ => True) (.slice Ao15 t423.length co15) t423) := ⟨h0_⟩
       have n1_ : Aside0 (Kd.R (Kd.int .u8) 5 w21 w.heap.size (fun _ => True) v438 y437) := ⟨h1_⟩
       have n2_ : Aside0 (w21.heap[gb415]? = some (.cells #[.string (⟨#[]⟩ : ByteArray), .int .i64 0, .slice none 0 0] 25 (0, 0))) := ⟨h2_⟩
       have n3_ : Aside0 (w21.heap[gb429]? = some (.cells #[.string t421, .int .i64 t422, .slice Ao15 t423.length co15] 25 (0, 0))) := ⟨h3_⟩
       have n4_ : Aside0 (IsS60 w w21 g420 t416 t431 t432 t433) := ⟨h4_⟩
       have n5_ : Aside0 (Below w.heap.size w w21) := ⟨h5_⟩
       clear HO425
       clear BK415
       clear BK429
       clear HI420
       clear HB
       clear h0_ h1_ h2_ h3_ h4_ h5_
       have HO425 := n0_
       have HO439 := n1_
       have BK415 := n2_
       have BK429 := n3_
       have HI420 := n4_
       have HB := n5_
       clear n0_ n1_ n2_ n3_ n4_ n5_
       have hHeld : w21.cell? ⟨gb429, 0, none⟩ = some (.string t421) ∧ w21.cell? ⟨gb429, 1, none⟩ = some (.int .i64 t422) ∧ w21.cell? ⟨gb429, 2, none⟩ = some (.slice Ao15 t423.length co15) := hS_
       refine norm_ (a' := ?_) ?_ ?_
       rotate_left
       · simp only [putAll, Act.put, List.setIfInBounds_toArray, List.set_cons_zero, List.set_cons_succ]; rfl
       refine one_ (i := 3) (N := some 18) zm6_12 rfl rfl (one_of HT_.out (by kernel_rfl)) (by decide) (fun K hK => ?_)
       refine Kd.R_make_step (Kd.int .u8) _ 5 (by rfl) (N := 18) rfl 22 _ _ rfl 64 rfl rfl Tryd.underlying22 (.int .u8 0) 1 info5 rfl (by decide) (by omega) 0 (ok := fun _ => True) (okp := fun _ => True) rfl (fun _ hk => hk) trivial (by omega) (by omega) (Below.refl _ _) (Nat.le_refl _) ?_
       intro v435 w22 ho23 hb hg_ hnew_
       clear hg_ hnew_
       ((simp only [Int.reduceToNat] at ho23; rw [← Ny434.out] at ho23))
       replace HO425 := Aside0.mk (Kd.R_below zb4_12 hb)
       have HO436 := Aside0.mk (Kd.R_lower (Kd.R_new' ho23 (Kd.R_lt zb10_12)) (below_size zb5_12))
       replace HO439 := Aside0.mk (Kd.R_elder' zb10_12 (Kd.R_base ho23) hb)
       replace BK415 := bkb BK415 hb
       replace HI420 := Aside0.mk (IsS60.below zb6_12 hb)
       replace BK429 := bkb BK429 hb
       replace HB := Aside0.mk (below_step zb5_12 hb)
       clear hb ho23
       refine hK.out _ _ zk0_12 (fun hHeld => ?_)
       clear hK K
       refine zn (some 18) ?_
       exact norm_ zb8_12 (hJ3_5_6 (v435, v438) _ ⟨hHeld, zb4_12, zb11_12, zb12_12, zb2_12, zb7_12, zb6_12, zb5_12⟩)
     ·
      rintro ⟨v435, v438⟩ w22 ⟨hS_, h0_, h1_, h2_, h3_, h4_, h5_, h6_⟩
      have n0_ : Aside0 (Kd.R k43 43 w22 w.heap.size (fun _ => True) (.slice Ao15 t423.length co15) t423) := ⟨h0_⟩
      have n1_ : Aside0 (Kd.R (Kd.int .u8) 5 w22 w.heap.size (fun k_ => some k_ ≠ (v438 : Value).ownBlock) v435 y434) := ⟨h1_⟩
      have n2_ : Aside0 (Kd.R (Kd.int .u8) 5 w22 w.heap.size (fun k_ => some k_ ≠ (v435 : Value).ownBlock) v438 y437) := ⟨h2_⟩
      have n3_ : Aside0 (w22.heap[gb415]? = some (.cells #[.string (⟨#[]⟩ : ByteArray), .int .i64 0, .slice none 0 0] 25 (0, 0))) := ⟨h3_⟩
      have n4_ : Aside0 (w22.heap[gb429]? = some (.cells #[.string t421, .int .i64 t422, .slice Ao15 t423.length co15] 25 (0, 0))) := ⟨h4_⟩
      have n5_ : Aside0 (IsS60 w w22 g420 t416 t431 t432 t433) := ⟨h5_⟩
      have n6_ : Aside0 (Below w.heap.size w w22) := ⟨h6_⟩
      clear HO425
      clear BK415
      clear BK429
      clear HI420
      clear HB
      clear h0_ h1_ h2_ h3_ h4_ h5_ h6_
      have HO425 := n0_
      have HO436 := n1_
      have HO439 := n2_
      have BK415 := n3_
      have BK429 := n4_
      have HI420 := n5_
      have HB := n6_
      clear n0_ n1_ n2_ n3_ n4_ n5_ n6_
      have hHeld : w22.cell? ⟨gb429, 0, none⟩ = some (.string t421) ∧ w22.cell? ⟨gb429, 1, none⟩ = some (.int .i64 t422) ∧ w22.cell? ⟨gb429, 2, none⟩ = some (.slice Ao15 t423.length co15) := hS_
      refine norm_ (a' := ?_) ?_ ?_
      rotate_left
      · simp only [putAll, Act.put, List.setIfInBounds_toArray, List.set_cons_zero, List.set_cons_succ]; rfl
      refine two_ (i := 4) (j := 6) (Ni := some 19) (Nj := some 21) zm5_12 zm6_12 rfl rfl rfl rfl (two_of HT_.out (by kernel_rfl)) (by decide) (by decide) (fun K hK => ?_) (fun K hK => ?_)
      ·
       have hcv23 := own_string (P := Tryd.prog) Tryd.underlying22 Tryd.underlying5 Tryd.underlying9 (Kd.own_of_R HO436.out)
       refine value_ (w1 := ?_) (v := ?_) (by rfl) rfl ?_ ?_
       rotate_left 2
       ·
        go_simp
        constructor
        · rfl
        · rfl
       clear hcv23
       refine hK.out _ _ zk0_12 (fun hHeld => ?_)
       clear hK K
       refine zn (some 19) ?_
       exact norm_ zb8_12 (hJ3_4_5 (v435, v438) _ ⟨hHeld, zb4_12, zb9_12, zb10_12, zb2_12, zb7_12, zb6_12, zb5_12⟩)
      ·
       have hcv23 := own_string (P := Tryd.prog) Tryd.underlying22 Tryd.underlying5 Tryd.underlying9 (Kd.own_of_R HO439.out)
       refine value_ (w1 := ?_) (v := ?_) (by rfl) rfl ?_ ?_
       rotate_left 2
       ·
        go_simp
        constructor
        · rfl
        · rfl
       clear hcv23
       refine hK.out _ _ zk0_12 (fun hHeld => ?_)
       clear hK K
       refine zn (some 21) ?_
       exact norm_ zb8_12 (hJ3_5_6 (v435, v438) _ ⟨hHeld, zb4_12, zb9_12, zb10_12, zb2_12, zb7_12, zb6_12, zb5_12⟩)
    ·
     rintro v435 w21 ⟨hS_, h0_, h1_, h2_, h3_, h4_, h5_⟩
     have n0_ : Aside0 (Kd.R k43 43 w21 w.heap.size (fun _ => True) (.slice Ao15 t423.length co15) t423) := ⟨h0_⟩
     have n1_ : Aside0 (Kd.R (Kd.int .u8) 5 w21 w.heap.size (fun _ => True) v435 y434) := ⟨h1_⟩
     have n2_ : Aside0 (w21.heap[gb415]? = some (.cells #[.string (⟨#[]⟩ : ByteArray), .int .i64 0, .slice none 0 0] 25 (0, 0))) := ⟨h2_⟩
     have n3_ : Aside0 (w21.heap[gb429]? = some (.cells #[.string t421, .int .i64 t422, .slice Ao15 t423.length co15] 25 (0, 0))) := ⟨h3_⟩
     have n4_ : Aside0 (IsS60 w w21 g420 t416 t431 t432 t433) := ⟨h4_⟩
     have n5_ : Aside0 (Below w.heap.size w w21) := ⟨h5_⟩
     clear HO425
     clear BK415
     clear BK429
     clear HI420
     clear HB
     clear h0_ h1_ h2_ h3_ h4_ h5_
     have HO425 := n0_
     have HO436 := n1_
     have BK415 := n2_
     have BK429 := n3_
     have HI420 := n4_
     have HB := n5_
     clear n0_ n1_ n2_ n3_ n4_ n5_
     have hHeld : w21.cell? ⟨gb429, 0, none⟩ = some (.string t421) ∧ w21.cell? ⟨gb429, 1, none⟩ = some (.int .i64 t422) ∧ w21.cell? ⟨gb429, 2, none⟩ = some (.slice Ao15 t423.length co15) := hS_
     refine norm_ (a' := ?_) ?_ ?_
     rotate_left
     · simp only [putAll, Act.put, List.setIfInBounds_toArray, List.set_cons_zero, List.set_cons_succ]; rfl
     refine one_ (i := 5) (N := some 20) zm5_12 rfl rfl (one_of HT_.out (by kernel_rfl)) (by decide) (fun K hK => ?_)
     refine Kd.R_make_step (Kd.int .u8) _ 5 (by rfl) (N := 20) rfl 22 _ _ rfl 65 rfl rfl Tryd.underlying22 (.int .u8 0) 1 info5 rfl (by decide) (by omega) 0 (ok := fun _ => True) (okp := fun _ => True) rfl (fun _ hk => hk) trivial (by omega) (by omega) (Below.refl _ _) (Nat.le_refl _) ?_
     intro v438 w22 ho23 hb hg_ hnew_
     clear hg_ hnew_
     ((simp only [Int.reduceToNat] at ho23; rw [← Ny437.out] at ho23))
     replace HO425 := Aside0.mk (Kd.R_below zb4_12 hb)
     have HO439 := Aside0.mk (Kd.R_lower (Kd.R_new' ho23 (Kd.R_lt zb9_12)) (below_size zb5_12))
     replace HO436 := Aside0.mk (Kd.R_elder' zb9_12 (Kd.R_base ho23) hb)
     replace BK415 := bkb BK415 hb
     replace HI420 := Aside0.mk (IsS60.below zb6_12 hb)
     replace BK429 := bkb BK429 hb
     replace HB := Aside0.mk (below_step zb5_12 hb)
     clear hb ho23
     refine hK.out _ _ zk0_12 (fun hHeld => ?_)
     clear hK K
     refine zn (some 20) ?_
     exact norm_ zb8_12 (hJ3_4_5 (v435, v438) _ ⟨hHeld, zb4_12, zb11_12, zb12_12, zb2_12, zb7_12, zb6_12, zb5_12⟩)
   ·
    rintro ⟨v435, v438⟩ w23 ⟨hS_, h0_, h1_, h2_, h3_, h4_, h5_, h6_⟩
    have n0_ : Aside0 (Kd.R k43 43 w23 w.heap.size (fun _ => True) (.slice Ao15 t423.length co15) t423) := ⟨h0_⟩
    have n1_ : Aside0 (Kd.R (Kd.int .u8) 5 w23 w.heap.size (fun k_ => some k_ ≠ (v438 : Value).ownBlock) v435 y434) := ⟨h1_⟩
    have n2_ : Aside0 (Kd.R (Kd.int .u8) 5 w23 w.heap.size (fun k_ => some k_ ≠ (v435 : Value).ownBlock) v438 y437) := ⟨h2_⟩
    have n3_ : Aside0 (w23.heap[gb415]? = some (.cells #[.string (⟨#[]⟩ : ByteArray), .int .i64 0, .slice none 0 0] 25 (0, 0))) := ⟨h3_⟩
    have n4_ : Aside0 (w23.heap[gb429]? = some (.cells #[.string t421, .int .i64 t422, .slice Ao15 t423.length co15] 25 (0, 0))) := ⟨h4_⟩
    have n5_ : Aside0 (IsS60 w w23 g420 t416 t431 t432 t433) := ⟨h5_⟩
    have n6_ : Aside0 (Below w.heap.size w w23) := ⟨h6_⟩
    clear HO425
    clear BK415
    clear BK429
    clear HI420
    clear HB
    clear h0_ h1_ h2_ h3_ h4_ h5_ h6_
    have HO425 := n0_
    have HO436 := n1_
    have HO439 := n2_
    have BK415 := n3_
    have BK429 := n4_
    have HI420 := n5_
    have HB := n6_
    clear n0_ n1_ n2_ n3_ n4_ n5_ n6_
    have hHeld : w23.cell? ⟨gb429, 0, none⟩ = some (.string t421) ∧ w23.cell? ⟨gb429, 1, none⟩ = some (.int .i64 t422) ∧ w23.cell? ⟨gb429, 2, none⟩ = some (.slice Ao15 t423.length co15) := hS_
    refine norm_ (a' := ?_) ?_ ?_
    rotate_left
    · simp only [putAll, Act.put, List.setIfInBounds_toArray, List.set_cons_zero, List.set_cons_succ]; rfl
    refine one_ (i := 4) (N := some 19) zm4_12 rfl rfl (one_of HT_.out (by kernel_rfl)) (by decide) (fun K hK => ?_)
    have hcv24 := own_string (P := Tryd.prog) Tryd.underlying22 Tryd.underlying5 Tryd.underlying9 (Kd.own_of_R HO436.out)
    refine value_ (w1 := ?_) (v := ?_) (by rfl) rfl ?_ ?_
    rotate_left 2
    ·
     go_simp
     constructor
     · rfl
     · rfl
    clear hcv24
    refine hK.out _ _ zk0_12 (fun hHeld => ?_)
    clear hK K
    refine zn (some 19) ?_
    exact norm_ zb8_12 (hJ3_4_5_6 (v435, v438) _ ⟨hHeld, zb4_12, zb9_12, zb10_12, zb2_12, zb7_12, zb6_12, zb5_12⟩)
  ·
   rintro ⟨v435, v438⟩ w23 ⟨hS_, h0_, h1_, h2_, h3_, h4_, h5_, h6_⟩
   have n0_ : Aside0 (Kd.R k43 43 w23 w.heap.size (fun _ => True) (.slice Ao15 t423.length co15) t423) := ⟨h0_⟩
   have n1_ : Aside0 (Kd.R (Kd.int .u8) 5 w23 w.heap.size (fun k_ => some k_ ≠ (v438 : Value).ownBlock) v435 y434) := ⟨h1_⟩
   have n2_ : Aside0 (Kd.R (Kd.int .u8) 5 w23 w.heap.size (fun k_ => some k_ ≠ (v435 : Value).ownBlock) v438 y437) := ⟨h2_⟩
   have n3_ : Aside0 (w23.heap[gb415]? = some (.cells #[.string (⟨#[]⟩ : ByteArray), .int .i64 0, .slice none 0 0] 25 (0, 0))) := ⟨h3_⟩
   have n4_ : Aside0 (w23.heap[gb429]? = some (.cells #[.string t421, .int .i64 t422, .slice Ao15 t423.length co15] 25 (0, 0))) := ⟨h4_⟩
   have n5_ : Aside0 (IsS60 w w23 g420 t416 t431 t432 t433) := ⟨h5_⟩
   have n6_ : Aside0 (Below w.heap.size w w23) := ⟨h6_⟩
   clear HO425
   clear BK415
   clear BK429
   clear HI420
   clear HB
   clear h0_ h1_ h2_ h3_ h4_ h5_ h6_
   have HO425 := n0_
   have HO436 := n1_
   have HO439 := n2_
   have BK415 := n3_
   have BK429 := n4_
   have HI420 := n5_
   have HB := n6_
   clear n0_ n1_ n2_ n3_ n4_ n5_ n6_
   have hHeld : w23.cell? ⟨gb429, 0, none⟩ = some (.string t421) ∧ w23.cell? ⟨gb429, 1, none⟩ = some (.int .i64 t422) ∧ w23.cell? ⟨gb429, 2, none⟩ = some (.slice Ao15 t423.length co15) := hS_
   refine norm_ (a' := ?_) ?_ ?_
   rotate_left
   · simp only [putAll, Act.put, List.setIfInBounds_toArray, List.set_cons_zero, List.set_cons_succ]; rfl
   refine one_ (i := 6) (N := some 21) zm4_12 rfl rfl (one_of HT_.out (by kernel_rfl)) (by decide) (fun K hK => ?_)
   have hcv24 := own_string (P := Tryd.prog) Tryd.underlying22 Tryd.underlying5 Tryd.underlying9 (Kd.own_of_R HO439.out)
   refine value_ (w1 := ?_) (v := ?_) (by rfl) rfl ?_ ?_
   rotate_left 2
   ·
    go_simp
    constructor
    · rfl
    · rfl
   clear hcv24
   refine hK.out _ _ zk0_12 (fun hHeld => ?_)
   clear hK K
   refine zn (some 21) ?_
   exact norm_ zb8_12 (hJ3_4_5_6 (v435, v438) _ ⟨hHeld, zb4_12, zb9_12, zb10_12, zb2_12, zb7_12, zb6_12, zb5_12⟩)
 rintro ⟨v435, v438⟩ w24 ⟨hS_, h0_, h1_, h2_, h3_, h4_, h5_, h6_⟩
 have n0_ : Aside0 (Kd.R k43 43 w24 w.heap.size (fun _ => True) (.slice Ao15 t423.length co15) t423) := ⟨h0_⟩
 have n1_ : Aside0 (Kd.R (Kd.int .u8) 5 w24 w.heap.size (fun k_ => some k_ ≠ (v438 : Value).ownBlock) v435 y434) := ⟨h1_⟩
 have n2_ : Aside0 (Kd.R (Kd.int .u8) 5 w24 w.heap.size (fun k_ => some k_ ≠ (v435 : Value).ownBlock) v438 y437) := ⟨h2_⟩
 have n3_ : Aside0 (w24.heap[gb415]? = some (.cells #[.string (⟨#[]⟩ : ByteArray), .int .i64 0, .slice none 0 0] 25 (0, 0))) := ⟨h3_⟩
 have n4_ : Aside0 (w24.heap[gb429]? = some (.cells #[.string t421, .int .i64 t422, .slice Ao15 t423.length co15] 25 (0, 0))) := ⟨h4_⟩
 have n5_ : Aside0 (IsS60 w w24 g420 t416 t431 t432 t433) := ⟨h5_⟩
 have n6_ : Aside0 (Below w.heap.size w w24) := ⟨h6_⟩
 clear HO425
 clear BK415
 clear BK429
 clear HI420
 clear HB
 clear h0_ h1_ h2_ h3_ h4_ h5_ h6_
 have HO425 := n0_
 have HO436 := n1_
 have HO439 := n2_
 have BK415 := n3_
 have BK429 := n4_
 have HI420 := n5_
 have HB := n6_
 clear n0_ n1_ n2_ n3_ n4_ n5_ n6_
 have hHeld : w24.cell? ⟨gb429, 0, none⟩ = some (.string t421) ∧ w24.cell? ⟨gb429, 1, none⟩ = some (.int .i64 t422) ∧ w24.cell? ⟨gb429, 2, none⟩ = some (.slice Ao15 t423.length co15) := hS_
 refine norm_ (a' := ?_) ?_ ?_
 rotate_left
 · simp only [putAll, Act.put, List.setIfInBounds_toArray, List.set_cons_zero, List.set_cons_succ]; rfl
 refine one_ (i := 7) (N := some 22) zm12_12 rfl rfl (one_of HT_.out (by kernel_rfl)) (by decide) (fun K hK => ?_)
 refine Kd.R_lit_step Kd.string _ 9 ?hg (N := 22) ?hd (xs := ([(⟨#[107]⟩ : ByteArray), (⟨#[107, 101, 121]⟩ : ByteArray), (⟨#[]⟩ : ByteArray), strOfNums y434, strOfNums y437] : List ByteArray)) (inner := [.string (⟨#[107]⟩ : ByteArray), .string (⟨#[107, 101, 121]⟩ : ByteArray), .string (⟨#[]⟩ : ByteArray), .string (strOfNums y434), .string (strOfNums y437)]) (ok := fun _ => True) (okp := fun _ => True) ?hr ?hp (fun _ hk => hk) trivial (Below.refl _ _) (Nat.le_refl _) (by simp) ?_; (case hd => rfl); (case hg => rfl); (case hr => (go_simp; done)); (case hp => exact (Reps.one (show Kd.M Kd.string _ _ _ (⟨#[107]⟩ : ByteArray) [.string (⟨#[107]⟩ : ByteArray)] from rfl) (Reps.one (show Kd.M Kd.string _ _ _ (⟨#[107, 101, 121]⟩ : ByteArray) [.string (⟨#[107, 101, 121]⟩ : ByteArray)] from rfl) (Reps.one (show Kd.M Kd.string _ _ _ (⟨#[]⟩ : ByteArray) [.string (⟨#[]⟩ : ByteArray)] from rfl) (Reps.one (show Kd.M Kd.string _ _ _ (strOfNums y434) [.string (strOfNums y434)] from rfl) (Reps.one (show Kd.M Kd.string _ _ _ (strOfNums y437) [.string (strOfNums y437)] from rfl) (Reps.none _ _)))))))
 intro v441 w25 ho26 hb hg_ hnew_
 clear hg_ hnew_
 ((rw [← Ny440.out] at ho26))
 replace HO425 := Aside0.mk (Kd.R_below zb4_12 hb)
 have HO442 := Aside0.mk (Kd.R_lower ho26 (below_size zb5_12))
 replace BK415 := bkb BK415 hb
 replace HI420 := Aside0.mk (IsS60.below zb6_12 hb)
 replace BK429 := bkb BK429 hb
 replace HB := Aside0.mk (below_step zb5_12 hb)
 clear hb ho26
 obtain ⟨Ao27, co27, eo27⟩ := Kd.R_slice HO442.out
 ((subst eo27))
 refine hK.out _ _ zk0_12 (fun hHeld => ?_)
 clear hK K
 refine zn (some 22) ?_
 refine one_ (i := 8) (N := some 23) zm13_12 rfl rfl (one_of HT_.out (by kernel_rfl)) (by decide) (fun K hK => ?_)
 refine goes_ Tryd.func21 (by kernel_rfl) rfl #[.pointer (some ⟨g420, 0, none⟩), .slice Ao27 y440.length co27] (by rfl) rfl rfl zb1_12 ?_
 with_reducible refine (spec_l01Src_pick.calls g420 t416 t431 t432 t433 _ _ y440 t443 t444 t445 t446 w _ ?side1 ?side2 ?side3 ?side4 ?side5 A7.out).mono ?_
 (case side1 => repeat ((with_reducible (exact HI420.out))))
 (case side2 => repeat ((with_reducible (exact HB.out))))
 (case side3 => repeat ((exact (Kd.R_reads' HO442.out).2.2)))
 (case side4 => exact (Kd.R_reads' HO442.out).2.1)
 (case side5 => exact far_slice (IsS60.own_ne HI420.out HO442.out (by decide)))
 rintro e w28 ⟨rfl, hi, hb, hk⟩
 refine ⟨_, rfl, ?_⟩
 replace BK415 := Aside0.mk (KeepBut.blk hk (g' := gb415) (o := .cells #[.string (⟨#[]⟩ : ByteArray), .int .i64 0, .slice none 0 0] 25 (0, 0)) zb2_12 NB415_420.out (by simp))
 replace HO425 := Aside0.mk (Kd.R_mono (Kd.R_keep (IsS60.apart (show IsS60 w _ g420 t416 t431 t432 t433 from by repeat ((with_reducible (exact HI420.out)))) zb4_12 (by decide)) hk (fun _ h => h.2)) (fun _ h => h.1))
 replace BK429 := Aside0.mk (KeepBut.blk hk (g' := gb429) (o := .cells #[.string t421, .int .i64 t422, .slice Ao15 t423.length co15] 25 (0, 0)) zb7_12 NB429_420.out (by simp))
 replace HB := Aside0.mk (hb)
 (try clear hb)
 (try clear hk)
 (try clear hi)
 refine hK.out _ _ zk0_12 (fun hHeld => ?_)
 clear hK K
 refine zn (some 23) ?_
 refine one_ (i := 9) (N := none) zm14_12 rfl rfl (one_of HT_.out (by kernel_rfl)) (by decide) (fun K hK => ?_)
 have hs29 : w28.cell? ⟨gb415, 0, none⟩ = some (.string (⟨#[]⟩ : ByteArray)) := (blk_cell BK415.out 0).trans rfl
 have hfs29 := blk_frozen BK415.out 0
 have hns29_1 := NB429_415.out
 have hms29_1 := NB415_429.out
 have hs30 : w28.cell? ⟨gb415, 1, none⟩ = some (.int .i64 0) := (blk_cell BK415.out 1).trans rfl
 have hfs30 := blk_frozen BK415.out 1
 have hns30_1 := NB429_415.out
 have hms30_1 := NB415_429.out
 have hs31 : w28.cell? ⟨gb415, 2, none⟩ = some (.slice none 0 0) := (blk_cell BK415.out 2).trans rfl
 have hfs31 := blk_frozen BK415.out 2
 have hns31_1 := NB429_415.out
 have hms31_1 := NB415_429.out
 refine skip_ (w1 := ?_) (by rfl) rfl ?_ ?_
 rotate_left
 · go_simp; rfl
 refine hK.out _ _ ⟨((cell_far (p := ⟨gb415, _, none⟩) NB429_415.out _).trans (((cell_far (p := ⟨gb415, _, none⟩) NB429_415.out _).trans (((cell_far (p := ⟨gb415, _, none⟩) NB429_415.out _).trans (hHeld.1)))))), ((cell_far (p := ⟨gb415, _, none⟩) NB429_415.out _).trans (((cell_far (p := ⟨gb415, _, none⟩) NB429_415.out _).trans (((cell_far (p := ⟨gb415, _, none⟩) NB429_415.out _).trans (hHeld.2.1)))))), ((cell_far (p := ⟨gb415, _, none⟩) NB429_415.out _).trans (((cell_far (p := ⟨gb415, _, none⟩) NB429_415.out _).trans (((cell_far (p := ⟨gb415, _, none⟩) NB429_415.out _).trans (hHeld.2.2))))))⟩ (fun hHeld => ?_)
 clear hK K
 refine zp 10 (some 3) zm15_12 HT_ ?_
 refine zp 11 (some 4) zm16_12 HT_ ?_
 refine done_ (done_of HT_.out (by kernel_rfl)) ?_
 try go_wp2
 refine bodyPost_ret (results_ctt rfl _ _ gb415 25 #[.string t421, .int .i64 t422, .slice Ao15 t423.length co15] (0, 0) _ rfl (by apply bp3; exact BK415.out) Tryd.underlying25 rfl (by kernel_rfl)) rfl ?_
 exact ⟨_, by rfl, by exact Kd.R_mono (rfa (rfa (rfa (Kd.R_types HO425.out BK415.out (by decide)) (fun _ h => h.2)) (fun _ h => h.2)) (fun _ h => h.2)) (fun _ hk => trivial), by repeat ((with_reducible first | exact HB.out | refine below_set ?_ GE415.out))⟩
/-! ### impl_peerAt: function 26: by hand (a closure over a boxed number, handed to the library's search) -/
def impl_peerAt.idx (id : Int) : List (S43) → Int → Int
 | [], _ => -1
 | x :: l, i => if x.f1 = id then i else impl_peerAt.idx id l (i + 1)
def impl_peerAt.f (_a0_0 : ByteArray) (_a0_1 : Int) (l0_2 : List (S43)) (a1 : Int) : Option (Int) := some (impl_peerAt.idx a1 l0_2 0)
theorem impl_peerAt.idx_step (id : Int) (l : List S43) (i : Nat) (h : i < l.length) : impl_peerAt.idx id (l.drop i) i = if (rd_T43 l i).f1 = id then (i : Int) else impl_peerAt.idx id (l.drop (i + 1)) ((i : Int) + 1) := by
 rw [List.drop_eq_getElem_cons h, impl_peerAt.idx]
 have e : rd_T43 l i = l[i] := by
  unfold rd_T43
  rw [Int.toNat_natCast, List.getD_eq_getElem?_getD, List.getElem?_eq_getElem h]
  rfl
 rw [e]
theorem impl_peerAt.idx_end (id : Int) (l : List S43) (i : Nat) (h : ¬ i < l.length) : impl_peerAt.idx id (l.drop i) i = -1 := by
 rw [List.drop_eq_nil_of_le (by omega)]; rfl
set_option maxRecDepth 100000 in
theorem impl_peerAt.clo (x : S43) (g : Nat) (id : Int) (w : World) (hg : w.heap[g]? = some (.cells #[.int .i64 id] 2 (0, 0))) :
  Calls Tryd.prog 38 #[.agg #[.string x.f0, .int .i64 x.f1, .int .i64 x.f2, .string x.f3], .pointer (some ⟨g, 0, none⟩)] w fun e w' => e = .returned (.bool (x.f1 == id)) ∧ Below w.heap.size w w' := by
 have hu43 := Tryd.underlying43
 have BG := Aside0.mk hg
 clear hg
 go_enter Tryd.func38, Tryd.ntmps38
 go_wp2_with (((with_reducible refine gate_dst (N := 2) rfl ?_); refine box_event ?hg (N := 2) ?hd (cs := #[.string x.f0, .int .i64 x.f1, .int .i64 x.f2, .string x.f3]) (t := 43) ?hr ?_; (case hd => rfl); (case hg => rfl); (case hr => (go_simp; done)); intro gb hg2 w3 hbox hb; have BK := Aside0.mk hbox; have HB := Aside0.mk hb; have BG2 := Aside0.mk (blk_below (g := g) (o := .cells #[.int .i64 id] 2 (0, 0)) BG.out hb); clear hbox hb hg2; have hc1 : w3.cell? ⟨gb, 1, none⟩ = some (.int .i64 x.f1) := (blk_cell BK.out 1).trans rfl; have hc0 : w3.cell? ⟨g, 0, none⟩ = some (.int .i64 id) := (blk_cell BG2.out 0).trans rfl; have hf1 := blk_frozen BK.out 1; have hf0 := blk_frozen BG2.out 0))
 go_ret
 exact ⟨rfl, HB.out⟩
set_option maxRecDepth 100000 in
theorem impl_peerAt.scan (g : Nat) (id : Int) (A : Option Addr) (c : Nat) (l : List S43) (w : World) (hg : w.heap[g]? = some (.cells #[.int .i64 id] 2 (0, 0))) (hr : Kd.C k43 w A l.length l) (hc : l.length ≤ c) :
  Calls Tryd.prog 37 #[.slice A l.length c, .func (.func 38) #[] #[.pointer (some ⟨g, 0, none⟩)]] w fun e w' => e = .returned (.int .i64 (impl_peerAt.idx id l 0)) ∧ Below w.heap.size w w' := by
 have hu43 := Tryd.underlying43
 have HR := Aside0.mk hr
 have HC := Aside0.mk hc
 have BG := Aside0.mk hg
 have HBIG := Aside0.mk hr.2.1
 clear hr hc hg
 go_enter Tryd.func37, Tryd.ntmps37
 go_wp2
 go_loopg [5, 8] (l.length + 1) (fun gg _ s8 wr => ∃ i : Nat, i ≤ l.length ∧ l.length - i < gg ∧ s8 = .int .i64 i ∧ Aside0 (Below w.heap.size w wr) ∧ Aside0 (impl_peerAt.idx id (l.drop i) i = impl_peerAt.idx id l 0))
 case atStart => exact ⟨0, Nat.zero_le _, by omega, rfl, ⟨Below.refl _ _⟩, ⟨rfl⟩⟩
 case round =>
  obtain ⟨i, hi, hgg, rfl, HB, HI⟩ := hrel
  have hbig := HBIG.out
  by_cases c4 : i < l.length
  ·
   have hltz : (i : Int) < (l.length : Int) := by omega
   have h0z : 0 ≤ (i : Int) := by omega
   obtain ⟨ad, e, hx0, hx1, hx2, hx3⟩ := at_T43 HR.out i h0z hltz
   cases e
   have hst := impl_peerAt.idx_step id l i c4
   rw [Int.toNat_natCast] at hx0 hx1 hx2 hx3
   generalize rd_T43 l i = x at hx0 hx1 hx2 hx3 hst
   replace hx0 := (HB.out.cell (World.block_lt_of_cell? w _ hx0)).trans hx0
   replace hx1 := (HB.out.cell (World.block_lt_of_cell? w _ hx1)).trans hx1
   replace hx2 := (HB.out.cell (World.block_lt_of_cell? w _ hx2)).trans hx2
   replace hx3 := (HB.out.cell (World.block_lt_of_cell? w _ hx3)).trans hx3
   have BGr := Aside0.mk (blk_below (g := g) (o := .cells #[.int .i64 id] 2 (0, 0)) BG.out HB.out)
   have HST := Aside0.mk hst
   clear hst
   have hb0 : decide ((i : Int) < (l.length : Int)) = true := decide_eq_true hltz
   cases hq : (x.f1 == id)
   ·
    go_wp2_with (go_at_call 38; refine (impl_peerAt.clo x g id _ BGr.out).mono ?_; rintro e w' ⟨rfl, hb⟩; rw [hq]; have HB2 := Aside0.mk (below_step HB.out hb); clear hb)
    go_roundg (l.length - i)
    case measure => omega
    case rel =>
     refine ⟨i + 1, by omega, by omega, by go_num, HB2, ⟨?_⟩⟩
     have h1 := HST.out
     rw [if_neg (by intro he; rw [he] at hq; simp at hq)] at h1
     rw [← HI.out, h1]
     rfl
   ·
    go_wp2_with (go_at_call 38; refine (impl_peerAt.clo x g id _ BGr.out).mono ?_; rintro e w' ⟨rfl, hb⟩; rw [hq]; have HB2 := Aside0.mk (below_step HB.out hb); clear hb)
    go_ret
    refine ⟨?_, HB2.out⟩
    have h1 := HST.out
    rw [if_pos (by simpa using hq)] at h1
    rw [← HI.out, h1]
    rfl
  ·
   have hltz : ¬ (i : Int) < (l.length : Int) := by omega
   go_wp2
   go_ret
   refine ⟨?_, HB.out⟩
   rw [← HI.out, impl_peerAt.idx_end id l i c4]
   rfl
set_option maxRecDepth 100000 in
theorem impl_peerAt.calls (a0_0 : ByteArray) (a0_1 : Int) (A0_2 : Option Addr) (c0_2 : Nat) (l0_2 : List (S43)) (a1 : Int) (r : Int) (w : World) (hr0_2 : Kd.C k43 w A0_2 l0_2.length l0_2) (hc0_2 : l0_2.length ≤ c0_2) (h : impl_peerAt.f a0_0 a0_1 l0_2 a1 = some r) :
  Calls Tryd.prog 26 #[.agg #[.string a0_0, .int .i64 a0_1, .slice A0_2 l0_2.length c0_2], .int .i64 a1] w fun e w' => e = .returned (.int .i64 r) ∧ Below w.heap.size w w' := by
 obtain rfl := Option.some.inj h
 clear h
 have hu25 := Tryd.underlying25
 have HR := Aside0.mk hr0_2
 have HC := Aside0.mk hc0_2
 clear hr0_2 hc0_2
 have hmf : ∀ fn first cap w, (Instr.makeFunc fn first cap).run Tryd.prog w = .ok (.func fn first cap) w := fun _ _ _ _ => rfl
 go_enter Tryd.func26, Tryd.ntmps26
 go_wp2_with (first | ((with_reducible refine gate_dst (N := 2) rfl ?_); refine box_event ?hg (N := 2) ?hd (cs := #[.string a0_0, .int .i64 a0_1, .slice A0_2 l0_2.length c0_2]) (t := 25) ?hr ?_; (case hd => rfl); (case hg => rfl); (case hr => (go_simp; done)); intro g1 hg1 w3 hbox hb; have B1 := Aside0.mk hbox; have HB1 := Aside0.mk hb; clear hbox hb hg1) | ((with_reducible refine gate_dst (N := 3) rfl ?_); refine box_event ?hg (N := 3) ?hd (cs := #[.int .i64 a1]) (t := 2) ?hr ?_; (case hd => rfl); (case hg => rfl); (case hr => (go_simp; done)); intro g2 hg2 w4 hbox hb; have B2 := Aside0.mk hbox; have B1b := Aside0.mk (blk_below (g := g1) (o := .cells #[.string a0_0, .int .i64 a0_1, .slice A0_2 l0_2.length c0_2] 25 (0, 0)) B1.out hb); have HB2 := Aside0.mk (below_step HB1.out hb); clear hbox hb hg2; have hc2 : w4.cell? ⟨g1, 2, none⟩ = some (.slice A0_2 l0_2.length c0_2) := (blk_cell B1b.out 2).trans rfl; have hf2 := blk_frozen B1b.out 2) | (go_at_call 37; refine (impl_peerAt.scan g2 a1 A0_2 c0_2 l0_2 _ B2.out (Kd.C_below HR.out HB2.out) HC.out).mono ?_; rintro e w' ⟨rfl, hb⟩; have HB3 := Aside0.mk (below_step HB2.out hb); clear hb))
 go_ret
 exact ⟨rfl, HB3.out⟩
end Go.Proofs.YtfijkimkdccioaaDoor.QFnDialback
