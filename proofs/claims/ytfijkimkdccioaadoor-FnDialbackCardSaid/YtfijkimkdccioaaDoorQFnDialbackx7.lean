-- laid by this session's own runner (wip/print2.py): not a printed file
import Derived.Test.YtfijkimkdccioaaDoorQFnDialbackx0
import Derived.Test.YtfijkimkdccioaaDoorQFnDialbackx2
import Derived.Test.YtfijkimkdccioaaDoorQFnDialbackx5
import Derived.Test.YtfijkimkdccioaaDoorQFnDialbackx6
namespace Go.Proofs.YtfijkimkdccioaaDoor.QFnDialback
open Go.RowKit Go.Proofs.YtfijkimkdccioaaDoorW.PrintWords Go.Proofs.YtfijkimkdccioaaDoorW.PrintLast Go.Proofs.YtfijkimkdccioaaDoorW.PrintMore
attribute [local go_sem] max2_int min2_int max_two min_two max_three min_three max_four min_four   -- for this text's walks alone
set_option linter.unusedVariables false
set_option linter.unusedSimpArgs false

abbrev zm0_7 : Array Bool := pm 0 6
abbrev zm1_7 : Array Bool := #[O,I,O,O,O,O]
abbrev zm2_7 : Array Bool := pm 2 4
abbrev zm3_7 : Array Bool := pm 0 8
abbrev zm4_7 : Array Bool := #[O,I,O,O,O,O,O,O]
abbrev zm5_7 : Array Bool := #[O,I,O,O,I,O,O,O]
abbrev zm6_7 : Array Bool := #[I,I,O,O,I,O,O,O]
abbrev zm7_7 : Array Bool := #[I,I,I,O,I,O,O,O]
abbrev zm8_7 : Array Bool := pm 5 3
abbrev zm9_7 : Array Bool := pm 6 2
abbrev zm10_7 : Array Bool := pm 7 1
abbrev zm11_7 : Array Bool := pm 8 0
abbrev zm12_7 : Array Bool := pm 0 7
abbrev zm13_7 : Array Bool := pm 1 6
abbrev zm14_7 : Array Bool := #[I,O,I,O,O,O,O]
abbrev zm15_7 : Array Bool := pm 3 4
abbrev zm16_7 : Array Bool := pm 4 3
abbrev zm17_7 : Array Bool := pm 5 2
abbrev zm18_7 : Array Bool := pm 6 1
abbrev zm19_7 : Array Bool := pm 7 0
theorem bcq_7 {w : World} {g t : Nat} {cs : Array Value} {v : Value} (h : w.heap[g]? = some (.cells cs t (0, 0))) (j : Nat) (e : cs[j]? = some v := by rfl) : w.cell? ⟨g, j, none⟩ = some v := (blk_cell h j).trans e
theorem zb0_7 {P : Prop} (h : P := by repeat ((with_reducible (exact HK.out)))) : P := h
theorem zb1_7 {P : Prop} (h : P := by exact BK252.out) : P := h
theorem zb2_7 {P : Prop} (h : P := by repeat ((with_reducible (exact HK.out)))) : P := h
theorem zb3_7 {P : Prop} (h : P := by rw [hg]; exact Nat.ne_of_lt (blk_lt (g := gb252) (o := .cells #[.string (⟨#[]⟩ : ByteArray), .int .i64 0, .slice none 0 0] 25 (0, 0)) (by exact BK252.out))) : P := h
theorem zb4_7 {P : Prop} (h : P := by rw [hg]; exact Nat.ne_of_gt (blk_lt (g := gb252) (o := .cells #[.string (⟨#[]⟩ : ByteArray), .int .i64 0, .slice none 0 0] 25 (0, 0)) (by exact BK252.out))) : P := h
theorem zb5_7 {P : Prop} (h : P := by (try simp only [List.map_toArray, List.map_cons, List.map_nil]); rfl) : P := h
theorem zb6_7 {P : Prop} (h : P := by repeat ((with_reducible first | exact HK.out | refine keep_far ?_ GW253.out _))) : P := h
theorem zb7_7 {P : Prop} (h : P := by rfl) : P := h
theorem zb8_7 {P : Prop} (h : P := by exact HO_254002.out) : P := h
theorem zb9_7 {P : Prop} (h : P := by exact BK253.out) : P := h
theorem zb10_7 {P : Prop} (h : P := by repeat ((with_reducible (exact HI0.out)))) : P := h
theorem zb11_7 {P : Prop} (h : P := by repeat ((with_reducible (exact HB.out)))) : P := h
theorem zb12_7 {P : Prop} (h : P := by rw [hg]; exact (keep_size (w := w) (g := g) (row := none) (by repeat ((with_reducible (exact HK.out)))))) : P := h
theorem zb13_7 {P : Prop} (h : P := by rw [hg]; exact Nat.ne_of_lt (blk_lt (g := gb253) (o := .cells #[.string x254000_1, .int .i64 x254001_1, u254002] 25 (0, 0)) (by exact BK253.out))) : P := h
theorem zb14_7 {P : Prop} (h : P := by rw [hg]; exact Nat.ne_of_gt (blk_lt (g := gb253) (o := .cells #[.string x254000_1, .int .i64 x254001_1, u254002] 25 (0, 0)) (by exact BK253.out))) : P := h
theorem zb15_7 {P : Prop} (h : P := by rw [hg]; exact Nat.ne_of_lt (IsS60.lt (show IsS60 w0 _ g s0_0 x1001_1 x1002_1 x1003_1 from by repeat ((with_reducible (exact HI0.out)))))) : P := h
theorem zb16_7 {P : Prop} (h : P := by rw [hg]; exact Nat.ne_of_gt (IsS60.lt (show IsS60 w0 _ g s0_0 x1001_1 x1002_1 x1003_1 from by repeat ((with_reducible (exact HI0.out)))))) : P := h
theorem zb17_7 {P : Prop} (h : P := by exact (Kd.R_mono (rfa (rfa (rfa (rfa (rfa (Kd.R_types HO_254002.out BK258.out (by decide)) (fun _ h => h.2)) (fun _ h => h.2)) (fun _ h => h.2)) (fun _ h => h.2)) (fun _ h => h.2)) (fun _ h_ => h_.1))) : P := h
theorem zb18_7 {P : Prop} (h : P := by refine blk_far ?_ NB252_258.out _; refine blk_far ?_ NB252_258.out _; refine blk_far ?_ NB252_258.out _; refine blk_far ?_ NB252_258.out _; refine blk_far ?_ NB252_258.out _; exact BK252.out) : P := h
theorem zb19_7 {P : Prop} (h : P := by refine blk_far ?_ NB253_258.out _; refine blk_far ?_ NB253_258.out _; refine blk_far ?_ NB253_258.out _; refine blk_far ?_ NB253_258.out _; refine blk_far ?_ NB253_258.out _; exact BK253.out) : P := h
theorem zb20_7 {P : Prop} (h : P := by apply bp5; exact BK258.out) : P := h
theorem zb21_7 {P : Prop} (h : P := by repeat ((with_reducible first | exact HK.out | refine keep_far ?_ GW258.out _))) : P := h
theorem zb22_7 {P : Prop} (h : P := by exact BK258.out) : P := h
theorem zb23_7 {P : Prop} (h : P := by repeat ((with_reducible (exact HI0.out)))) : P := h
theorem zb24_7 {P : Prop} (h : P := by repeat ((with_reducible (exact HB.out)))) : P := h
theorem zb25_7 {P : Prop} (h : P := by exact HO291.out) : P := h
theorem zb26_7 {P : Prop} (h : P := by (with_reducible assumption)) : P := h
theorem zb27_7 {P : Prop} (h : P := by apply bp3; exact BK252.out) : P := h
theorem zk0_7 {P : Prop} (h : P := by exact ⟨(blk_cell BK253.out 0).trans rfl, (blk_cell BK253.out 1).trans rfl, (blk_cell BK253.out 2).trans rfl⟩) : P := h
theorem zk1_7 {P : Prop} (h : P := by exact ⟨((cell_far (p := ⟨gb258, _, none⟩) NB253_258.out _).trans (((cell_far (p := ⟨gb258, _, none⟩) NB253_258.out _).trans (((cell_far (p := ⟨gb258, _, none⟩) NB253_258.out _).trans (((cell_far (p := ⟨gb258, _, none⟩) NB253_258.out _).trans (((cell_far (p := ⟨gb258, _, none⟩) NB253_258.out _).trans (hHeld.1)))))))))), ((cell_far (p := ⟨gb258, _, none⟩) NB253_258.out _).trans (((cell_far (p := ⟨gb258, _, none⟩) NB253_258.out _).trans (((cell_far (p := ⟨gb258, _, none⟩) NB253_258.out _).trans (((cell_far (p := ⟨gb258, _, none⟩) NB253_258.out _).trans (((cell_far (p := ⟨gb258, _, none⟩) NB253_258.out _).trans (hHeld.2.1)))))))))), ((cell_far (p := ⟨gb258, _, none⟩) NB253_258.out _).trans (((cell_far (p := ⟨gb258, _, none⟩) NB253_258.out _).trans (((cell_far (p := ⟨gb258, _, none⟩) NB253_258.out _).trans (((cell_far (p := ⟨gb258, _, none⟩) NB253_258.out _).trans (((cell_far (p := ⟨gb258, _, none⟩) NB253_258.out _).trans (hHeld.2.2))))))))))⟩) : P := h
/-! ### spec_l01Src_l06Dialback: function 20 -/
def spec_l01Src_l06Dialback.l0 : Nat → Int → List Int → Int → Int → Int → ByteArray → Int → List (S43) → Option (ByteArray × Int × (List (S43)) × Int × Int × Int)
 | 0, _, _, _, _, _, _, _, _ => none
 | k + 1, x4, x1000, x1001, x1002, x1003, x254000, x254001, x254002 => if x4 > 0 then ((spec_l01Src_n.f x1000 x1001 x1002 x1003 4).bind fun bt259 => (if bt259.1 = 0 then ((spec_l01Src_n.f x1000 bt259.2.1 bt259.2.2.1 bt259.2.2.2 4).bind fun bt263 => ((spec_DbResult.f k x254000 x254001 x254002 (wrap64 (1 + bt263.1)) (⟨#[107]⟩ : ByteArray)).bind fun bt267 => (if bt267.2.2.2.2 = 0 then (spec_l01Src_l06Dialback.l0 k (wrap64 (x4 - 1)) x1000 bt263.2.1 bt263.2.2.1 bt263.2.2.2 bt267.1 bt267.2.1 bt267.2.2.1) else (spec_l01Src_l06Dialback.l0 k (wrap64 (x4 - 1)) x1000 bt263.2.1 bt263.2.2.1 bt263.2.2.2 x254000 x254001 x254002)))) else (if bt259.1 = 1 then ((spec_l01Src_n.f x1000 bt259.2.1 bt259.2.2.1 bt259.2.2.2 4).bind fun bt274 => ((spec_l01Src_one.f x1000 bt274.2.1 bt274.2.2.1 bt274.2.2.2 2).bind fun bt278 => ((spec_DbVerified.f k x254000 x254001 x254002 (wrap64 (1 + bt274.1)) bt278.1).bind fun bt282 => (if bt282.2.2.2.2 = 0 then (spec_l01Src_l06Dialback.l0 k (wrap64 (x4 - 1)) x1000 bt278.2.1 bt278.2.2.1 bt278.2.2.2 bt282.1 bt282.2.1 bt282.2.2.1) else (spec_l01Src_l06Dialback.l0 k (wrap64 (x4 - 1)) x1000 bt278.2.1 bt278.2.2.1 bt278.2.2.2 x254000 x254001 x254002))))) else ((spec_l01Src_pick.f x1000 bt259.2.1 bt259.2.2.1 bt259.2.2.2 (([(⟨#[98]⟩ : ByteArray), (⟨#[99, 46, 100]⟩ : ByteArray)] : List ByteArray))).bind fun bt292 => ((spec_DbOpen.f k x254000 x254001 x254002 bt292.1).bind fun bt296 => (if bt296.2.2.2.2 = 0 then (spec_l01Src_l06Dialback.l0 k (wrap64 (x4 - 1)) x1000 bt292.2.1 bt292.2.2.1 bt292.2.2.2 bt296.1 bt296.2.1 bt296.2.2.1) else (spec_l01Src_l06Dialback.l0 k (wrap64 (x4 - 1)) x1000 bt292.2.1 bt292.2.2.1 bt292.2.2.2 x254000 x254001 x254002))))))) else ((spec_l01Src_one.f x1000 x1001 x1002 x1003 20).bind fun bt303 => (if bt303.1 = true then ((spec_l01Src_n.f x1000 bt303.2.1 bt303.2.2.1 bt303.2.2.2 4).bind fun bt307 => (if bt307.1 = 0 then ((some (([0, 1, 1000000000, 1000000001] : List Int) : List Int)).bind fun y311 => ((spec_l01Src_n.f x1000 bt307.2.1 bt307.2.2.1 bt307.2.2.2 4).bind fun bt314 => (if 0 ≤ bt314.1 then (if bt314.1 < (y311.length : Int) then (some (x254000, rd y311 bt314.1, x254002, bt314.2.1, bt314.2.2.1, bt314.2.2.2)) else (none)) else (none)))) else (if bt307.1 = 1 then (if x254002.length < 2932031007402 then (some (x254000, x254001, (x254002 ++ [(⟨(⟨#[98]⟩ : ByteArray), x254001, 0, (⟨#[]⟩ : ByteArray)⟩ : S43)]), bt307.2.1, bt307.2.2.1, bt307.2.2.2)) else (none)) else (if bt307.1 = 2 then (some ((⟨#[65]⟩ : ByteArray), x254001, x254002, bt307.2.1, bt307.2.2.1, bt307.2.2.2)) else (if (x254002.length : Int) > 0 then ((spec_l01Src_n.f x1000 bt307.2.1 bt307.2.2.1 bt307.2.2.2 5).bind fun bt322 => (if 0 < (x254002.length : Int) then (some (x254000, x254001, (x254002.set (0 : Int).toNat (⟨(rd_T43 x254002 0).f0, (rd_T43 x254002 0).f1, bt322.1, (rd_T43 x254002 0).f3⟩ : S43)), bt322.2.1, bt322.2.2.1, bt322.2.2.2)) else (none))) else (some (x254000, x254001, x254002, bt307.2.1, bt307.2.2.1, bt307.2.2.2))))))) else (some (x254000, x254001, x254002, bt303.2.1, bt303.2.2.1, bt303.2.2.2))))
def spec_l01Src_l06Dialback.f (k : Nat) (s0_0 : List Int) (s0_1 : Int) (s0_2 : Int) (s0_3 : Int) : Option (ByteArray × Int × (List (S43)) × Int × Int × Int) := (spec_l01Src_n.f s0_0 s0_1 s0_2 s0_3 (wrap64 (6 + (wrap64 (Int.tdiv s0_3 2))))).bind fun bt254 => (spec_l01Src_l06Dialback.l0 k bt254.1 s0_0 bt254.2.1 bt254.2.2.1 bt254.2.2.2 (⟨#[97]⟩ : ByteArray) 1 ([] : List (S43)))
theorem spec_l01Src_l06Dialback.mono_l : ∀ k, (∀ y0 y1 y2 y3 y4 y5 y6 y7, LeO (spec_l01Src_l06Dialback.l0 k y0 y1 y2 y3 y4 y5 y6 y7) (spec_l01Src_l06Dialback.l0 (k + 1) y0 y1 y2 y3 y4 y5 y6 y7))
 | 0 => fun _ _ _ _ _ _ _ _ r h => by simp [spec_l01Src_l06Dialback.l0] at h
 | k + 1 => by
  have ih0 := spec_l01Src_l06Dialback.mono_l k
  ·
   intro y0 y1 y2 y3 y4 y5 y6 y7
   unfold spec_l01Src_l06Dialback.l0
   repeat' first
   | (with_reducible exact ih0 _ _ _ _ _ _ _ _)
   | (with_reducible exact spec_DbOpen.mono _ _ _ _ _)
   | (with_reducible exact spec_DbResult.mono _ _ _ _ _ _)
   | (with_reducible exact spec_DbVerified.mono _ _ _ _ _ _)
   | (with_reducible exact LeO.refl _)
   | (with_reducible exact LeO.none _)
   | (with_reducible refine LeO.ite ?_ ?_)
   | (with_reducible refine LeO.bind ?_ (fun _ => ?_))
   | exact ih0 _ _ _ _ _ _ _ _
   | exact spec_DbOpen.mono _ _ _ _ _
   | exact spec_DbResult.mono _ _ _ _ _ _
   | exact spec_DbVerified.mono _ _ _ _ _ _
   | exact LeO.none _
   | refine LeO.ite ?_ ?_
   | refine LeO.bind ?_ (fun _ => ?_)
theorem spec_l01Src_l06Dialback.mono : ∀ a0 a1 a2 a3 k, LeO (spec_l01Src_l06Dialback.f k a0 a1 a2 a3) (spec_l01Src_l06Dialback.f (k + 1) a0 a1 a2 a3) := by
 intro a0 a1 a2 a3 k
 have ih0 := spec_l01Src_l06Dialback.mono_l k
 unfold spec_l01Src_l06Dialback.f
 repeat' first
   | (with_reducible exact ih0 _ _ _ _ _ _ _ _)
   | (with_reducible exact spec_DbOpen.mono _ _ _ _ _)
   | (with_reducible exact spec_DbResult.mono _ _ _ _ _ _)
   | (with_reducible exact spec_DbVerified.mono _ _ _ _ _ _)
   | (with_reducible exact LeO.refl _)
   | (with_reducible exact LeO.none _)
   | (with_reducible refine LeO.ite ?_ ?_)
   | (with_reducible refine LeO.bind ?_ (fun _ => ?_))
   | exact ih0 _ _ _ _ _ _ _ _
   | exact spec_DbOpen.mono _ _ _ _ _
   | exact spec_DbResult.mono _ _ _ _ _ _
   | exact spec_DbVerified.mono _ _ _ _ _ _
   | exact LeO.none _
   | refine LeO.ite ?_ ?_
   | refine LeO.bind ?_ (fun _ => ?_)
def spec_l01Src_l06Dialback.T11 : Bool × List (List Nat × List Nat) := (true, [([], []), ([], []), ([1], [1]), ([2], [2]), ([], []), ([4, 2], [4]), ([0, 3, 5, 5], [0, 3, 5]), ([6, 6, 0, 1, 2, 3, 4, 5, 6], [6])])
def spec_l01Src_l06Dialback.B11 : List Nat := [0, 0, 2, 6, 0, 22, 63, 127]
theorem spec_l01Src_l06Dialback.tab11 : rtab .any (opsOf Tryd.f20 11) = spec_l01Src_l06Dialback.T11 := by kernel_rfl
theorem spec_l01Src_l06Dialback.bits11 : waitsOk spec_l01Src_l06Dialback.T11.2 spec_l01Src_l06Dialback.B11 = true := by kernel_rfl
set_option maxHeartbeats 8000000 in
set_option maxRecDepth 100000 in
theorem spec_l01Src_l06Dialback.calls (k : Nat) (g : Nat) (s0_0 : List Int) (s0_1 : Int) (s0_2 : Int) (s0_3 : Int) (r1 : ByteArray) (r2 : Int) (r3 : List (S43)) (r4 : Int) (r5 : Int) (r6 : Int) (w0 w : World) (hI : IsS60 w0 w g s0_0 s0_1 s0_2 s0_3) (hB : Below w0.heap.size w0 w) (h : spec_l01Src_l06Dialback.f k s0_0 s0_1 s0_2 s0_3 = some (r1, r2, r3, r4, r5, r6)) :
  Calls Tryd.prog 20 #[.pointer (some ⟨g, 0, none⟩)] w fun e w' => ∃ v2_ : Value, e = .returned (.agg #[.string r1, .int .i64 r2, v2_]) ∧ Kd.R k43 43 w' w.heap.size (fun _ => True) v2_ r3 ∧ IsS60 w0 w' g s0_0 r4 r5 r6 ∧ Below w0.heap.size w0 w' ∧ KeepBut w w' g none := by
 have hu25 := Tryd.underlying25
 have hu29 := Tryd.underlying29
 have hu43 := Tryd.underlying43
 have HI0 := Aside0.mk hI
 have HK := Aside0.mk (KeepBut.refl w g none)
 have HL := Aside0.mk hB.size
 clear hI
 have HW0 := Aside0.mk hB.size
 have HB := Aside0.mk hB
 clear hB
 have H : ((spec_l01Src_n.f s0_0 s0_1 s0_2 s0_3 (wrap64 (6 + (wrap64 (Int.tdiv s0_3 2))))).bind fun bt254 => (spec_l01Src_l06Dialback.l0 k bt254.1 s0_0 bt254.2.1 bt254.2.2.1 bt254.2.2.2 (⟨#[97]⟩ : ByteArray) 1 ([] : List (S43)))) = some (r1, r2, r3, r4, r5, r6) := h
 clear h
 replace H := Option.bind_eq_some_iff.mp H
 obtain ⟨⟨t254, t255, t256, t257⟩, A20, H⟩ := H
 (try dsimp -simprocs only at H)
 have A2 := Aside0.mk A20
 clear A20
 have H' := Aside0.mk H
 clear H
 go_enter Tryd.func20, Tryd.ntmps20
 go_wp2_with (first | ((with_reducible refine gate_dst (N := 2) rfl ?_); refine box_event ?hg (N := 2) ?hd (cs := #[.string (⟨#[]⟩ : ByteArray), .int .i64 0, .slice none 0 0]) (t := 25) ?hr ?_; (case hd => rfl); (case hg => rfl); (case hr => (go_simp; done)); intro gb252 hg w3 hbox hb; replace HB := Aside0.mk (below_step (by repeat ((with_reducible (exact HB.out)))) hb); have BK252 := Aside0.mk (hbox); have GW252 := Aside0.mk ((by rw [hg]; exact (keep_size (w := w) (g := g) (row := none) zb0_7) : w.heap.size ≤ gb252)); have GE252 := Aside0.mk ((Nat.le_trans HW0.out (by rw [hg]; exact (keep_size (w := w) (g := g) (row := none) zb0_7) : w.heap.size ≤ gb252) : w0.heap.size ≤ gb252)); replace HK := Aside0.mk (KeepBut.trans zb0_7 (KeepBut.of_below hb g none) (.inl rfl)); have NB0_252 := Aside0.mk ((by rw [hg]; exact Nat.ne_of_lt (IsS60.lt (show IsS60 w0 _ g s0_0 s0_1 s0_2 s0_3 from by repeat ((with_reducible (exact HI0.out))))) : g ≠ gb252)); have NB252_0 := Aside0.mk ((by rw [hg]; exact Nat.ne_of_gt (IsS60.lt (show IsS60 w0 _ g s0_0 s0_1 s0_2 s0_3 from by repeat ((with_reducible (exact HI0.out))))) : gb252 ≠ g)); replace HI0 := Aside0.mk (IsS60.below (by repeat ((with_reducible (exact HI0.out)))) hb); clear hb hbox hg) | ((with_reducible refine gate_dst (N := 3) rfl ?_); refine box_event ?hg (N := 3) ?hd (cs := #[.string (⟨#[]⟩ : ByteArray), .int .i64 0, .slice none 0 0]) (t := 25) ?hr ?_; (case hd => rfl); (case hg => rfl); (case hr => (go_simp; done)); intro gb253 hg w4 hbox hb; replace HB := Aside0.mk (below_step (by repeat ((with_reducible (exact HB.out)))) hb); have BK253 := Aside0.mk (hbox); have GW253 := Aside0.mk ((by rw [hg]; exact (keep_size (w := w) (g := g) (row := none) zb2_7) : w.heap.size ≤ gb253)); have GE253 := Aside0.mk ((Nat.le_trans HW0.out (by rw [hg]; exact (keep_size (w := w) (g := g) (row := none) zb2_7) : w.heap.size ≤ gb253) : w0.heap.size ≤ gb253)); replace HK := Aside0.mk (KeepBut.trans zb2_7 (KeepBut.of_below hb g none) (.inl rfl)); have NB252_253 := Aside0.mk ((zb3_7 : gb252 ≠ gb253)); have NB253_252 := Aside0.mk ((zb4_7 : gb253 ≠ gb252)); replace BK252 := bkb BK252 hb; have NB0_253 := Aside0.mk ((by rw [hg]; exact Nat.ne_of_lt (IsS60.lt (show IsS60 w0 _ g s0_0 s0_1 s0_2 s0_3 from by repeat ((with_reducible (exact HI0.out))))) : g ≠ gb253)); have NB253_0 := Aside0.mk ((by rw [hg]; exact Nat.ne_of_gt (IsS60.lt (show IsS60 w0 _ g s0_0 s0_1 s0_2 s0_3 from by repeat ((with_reducible (exact HI0.out))))) : gb253 ≠ g)); replace HI0 := Aside0.mk (IsS60.below (by repeat ((with_reducible (exact HI0.out)))) hb); clear hb hbox hg; have hnb5 := NB253_252.out; have hnc5 := NB252_253.out; have hnb6 := NB253_0.out; have hnc6 := NB0_253.out; obtain ⟨z0, z1, z2, z3, z4, z5⟩ := bz3 BK253.out; obtain ⟨ASz8_0, cSz8_0, HGz8, hgz8, HSz8_0⟩ := HI0.out; have hcz8_0 := cellS60_0 HGz8; have hcz8_1 := cellS60_1 HGz8; have hcz8_2 := cellS60_2 HGz8; have hcz8_3 := cellS60_3 HGz8; have hfz8_1 := blk_frozen HGz8 1; have hfz8_2 := blk_frozen HGz8 2; have hfz8_3 := blk_frozen HGz8 3; clear HGz8 hgz8) | ((with_reducible refine gate_callee (f := 25) rfl ?_); refine goesL_ (some 14) rfl rfl Tryd.func25 (by kernel_rfl) rfl #[.pointer (some ⟨g, 0, none⟩), .int .i64 (wrap64 (6 + (wrap64 (Int.tdiv s0_3 2))))] rfl zb5_7 ?_; (with_reducible refine (spec_l01Src_n.calls g s0_0 s0_1 s0_2 s0_3 (wrap64 (6 + (wrap64 (Int.tdiv s0_3 2)))) t254 t255 t256 t257 w0 _ ?side1 ?side2 A2.out).mono ?_); (case side1 => repeat ((with_reducible first | exact HI0.out | refine IsS60.far ?_ NB0_253.out _))); (case side2 => repeat ((with_reducible first | exact HB.out | refine below_set ?_ GE253.out))); rintro e w9 ⟨rfl, hi, hb, hk⟩; refine ⟨_, rfl, ?_⟩; replace BK252 := Aside0.mk (KeepBut.blk hk (g' := gb252) (o := .cells #[.string (⟨#[]⟩ : ByteArray), .int .i64 0, .slice none 0 0] 25 (0, 0)) (by refine blk_far ?_ NB252_253.out _; refine blk_far ?_ NB252_253.out _; refine blk_far ?_ NB252_253.out _; exact BK252.out) NB252_0.out (by simp)); replace BK253 := Aside0.mk (KeepBut.blk hk (g' := gb253) (o := .cells #[.string (⟨#[97]⟩ : ByteArray), .int .i64 1, .slice none 0 0] 25 (0, 0)) (by apply bp3; exact BK253.out) NB253_0.out (by simp)); replace HK := Aside0.mk (KeepBut.trans zb6_7 hk (.inl rfl)); replace HB := Aside0.mk (hb); replace HI0 := Aside0.mk (hi); (try clear hb); (try clear hk); (try clear hi)))
 go_loopg [4] k (fun kq v4 w' => ∃ (x4_1 : Int) (x1001_1 : Int) (x1002_1 : Int) (x1003_1 : Int) (x254000_1 : ByteArray) (x254001_1 : Int) (x254002_1 : List (S43)) (u254002 : Value), v4 = .int .i64 x4_1 ∧ Aside0 (spec_l01Src_l06Dialback.l0 kq x4_1 s0_0 x1001_1 x1002_1 x1003_1 x254000_1 x254001_1 x254002_1 = some (r1, r2, r3, r4, r5, r6)) ∧ Aside0 (kq ≤ k) ∧ Aside0 (Kd.R k43 43 w' w.heap.size (fun _ => True) u254002 x254002_1) ∧ Aside0 (w'.heap[gb252]? = some (.cells #[.string (⟨#[]⟩ : ByteArray), .int .i64 0, (.slice none 0 0)] 25 (0, 0))) ∧ Aside0 (w'.heap[gb253]? = some (.cells #[.string x254000_1, .int .i64 x254001_1, u254002] 25 (0, 0))) ∧ Aside0 (IsS60 w0 w' g s0_0 x1001_1 x1002_1 x1003_1) ∧ Aside0 (KeepBut w w' g none) ∧ Aside0 (Below w0.heap.size w0 w'))
 case atStart => exact ⟨(t254), (t255), (t256), (t257), ((⟨#[97]⟩ : ByteArray)), (1), (([] : List (S43))), (.slice none 0 0), zb7_7, H', ⟨Nat.le_refl _⟩, ⟨by (exact Kd.R_nil _ _ _ _ _)⟩, ⟨by exact BK252.out⟩, ⟨by exact BK253.out⟩, ⟨by repeat ((with_reducible (exact HI0.out)))⟩, ⟨by repeat ((with_reducible (exact HK.out)))⟩, ⟨by repeat ((with_reducible (exact HB.out)))⟩⟩
 case round =>
  clear H'
  obtain ⟨x4_1, x1001_1, x1002_1, x1003_1, x254000_1, x254001_1, x254002_1, u254002, rfl, HA, HK1, HO_254002, BK252, BK253, HI0, HK, HB⟩ := hrel
  cases gk with
  | zero => exact absurd HA.out (by simp [spec_l01Src_l06Dialback.l0])
  | succ k1 =>
   have H := HA.out
   clear HA
   simp only [spec_l01Src_l06Dialback.l0] at H
   by_cases c10 : x4_1 > 0
   rotate_left
   ·
    rw [if_neg c10] at H
    have c10b0 : decide (0 < x4_1) = false := decide_eq_false c10
    clear c10
    replace H := Option.bind_eq_some_iff.mp H
    obtain ⟨⟨t303, t304, t305, t306⟩, A1430, H⟩ := H
    (try dsimp -simprocs only at H)
    have A143 := Aside0.mk A1430
    clear A1430
    by_cases c144 : t303 = true
    rotate_left
    ·
     replace c144 := Bool.eq_false_iff.mpr c144
     subst c144
     rw [if_neg (show ¬ (false = true) by decide)] at H
     simp only [Option.some.injEq, Prod.mk.injEq] at H
     obtain ⟨rfl, rfl, rfl, rfl, rfl, rfl⟩ := H
     go_wp2_with (((with_reducible refine gate_callee (f := 28) rfl ?_); refine goesL_ (some 49) rfl rfl Tryd.func28 (by kernel_rfl) rfl #[.pointer (some ⟨g, 0, none⟩), .int .i64 20] rfl zb5_7 ?_; (with_reducible refine (spec_l01Src_one.calls g s0_0 x1001_1 x1002_1 x1003_1 20 false t304 t305 t306 w0 _ ?side1 ?side2 A143.out).mono ?_); (case side1 => repeat ((with_reducible (exact HI0.out)))); (case side2 => repeat ((with_reducible (exact HB.out)))); rintro e w208 ⟨rfl, hi, hb, hk⟩; refine ⟨_, rfl, ?_⟩; replace HO_254002 := Aside0.mk (Kd.R_mono (Kd.R_keep (IsS60.apart (show IsS60 w0 _ g s0_0 x1001_1 x1002_1 x1003_1 from by repeat ((with_reducible (exact HI0.out)))) zb8_7 (by decide)) hk (fun _ h => h.2)) (fun _ h => h.1)); replace BK252 := Aside0.mk (KeepBut.blk hk (g' := gb252) (o := .cells #[.string (⟨#[]⟩ : ByteArray), .int .i64 0, .slice none 0 0] 25 (0, 0)) zb1_7 NB252_0.out (by simp)); replace BK253 := Aside0.mk (KeepBut.blk hk (g' := gb253) (o := .cells #[.string x254000_1, .int .i64 x254001_1, u254002] 25 (0, 0)) zb9_7 NB253_0.out (by simp)); replace HK := Aside0.mk (KeepBut.trans zb6_7 hk (.inl rfl)); replace HB := Aside0.mk (hb); replace HI0 := Aside0.mk (hi); (try clear hb); (try clear hk); (try clear hi); have hnb209 := NB253_252.out; have hnc209 := NB252_253.out; have hnb210 := NB253_0.out; have hnc210 := NB0_253.out; obtain ⟨z0, z1, z2, z3, z4, z5⟩ := bz3 BK253.out; have hnb212 := NB252_0.out; have hnc212 := NB0_252.out; obtain ⟨z0, z1, z2, z3, z4, z5⟩ := bz3 BK252.out; obtain ⟨Ao214, co214, eo214⟩ := Kd.R_slice HO_254002.out; subst eo214))
     refine bodyPost_ret (results_cell_row rfl _ _ gb252 25 #[.string x254000_1, .int .i64 x254001_1, .slice Ao214 x254002_1.length co214] (0, 0) _ rfl zb27_7 Tryd.underlying25 rfl (by kernel_rfl)) rfl ?_
     exact ⟨_, by rfl, by exact Kd.R_mono (rfa (rfa (rfa (Kd.R_types HO_254002.out BK252.out (by decide)) (fun _ h => h.2)) (fun _ h => h.2)) (fun _ h => h.2)) (fun _ hk => trivial), by repeat ((with_reducible first | exact HI0.out | refine IsS60.far ?_ NB0_252.out _)), by repeat ((with_reducible first | exact HB.out | refine below_set ?_ GE252.out)), by repeat ((with_reducible first | exact HK.out | refine keep_far ?_ GW252.out _))⟩
    subst c144
    rw [if_pos rfl] at H
    replace H := Option.bind_eq_some_iff.mp H
    obtain ⟨⟨t307, t308, t309, t310⟩, A1450, H⟩ := H
    (try dsimp -simprocs only at H)
    have A145 := Aside0.mk A1450
    clear A1450
    by_cases c146 : t307 = 0
    ·
     rw [if_pos c146] at H
     have c146b0 : (t307 == 0) = true := beq_iff_eq.mpr c146
     have c146b1 : (t307 != 0) = false := bne_eq_false_iff_eq.mpr c146
     clear c146
     obtain ⟨y311, hy311⟩ : ∃ y_ : List Int, y_ = (([0, 1, 1000000000, 1000000001] : List Int)) := ⟨_, rfl⟩
     replace H : ((spec_l01Src_n.f s0_0 t308 t309 t310 4).bind fun bt314 => (if 0 ≤ bt314.1 then (if bt314.1 < (y311.length : Int) then (some (x254000_1, rd y311 bt314.1, x254002_1, bt314.2.1, bt314.2.2.1, bt314.2.2.2)) else (none)) else (none))) = some (r1, r2, r3, r4, r5, r6) := by (have H2_ := (Option.bind_some _ _).symm.trans H; rw [hy311]; with_reducible exact H2_)
     have Ny311 := Aside0.mk hy311
     clear hy311
     replace H := Option.bind_eq_some_iff.mp H
     obtain ⟨⟨t314, t315, t316, t317⟩, A1470, H⟩ := H
     (try dsimp -simprocs only at H)
     have A147 := Aside0.mk A1470
     clear A1470
     by_cases c148 : 0 ≤ t314
     rotate_left
     · rw [if_neg c148] at H; exact absurd H (by simp)
     rw [if_pos c148] at H
     have c148b0 := decide_eq_true c148
     clear c148
     by_cases c149 : t314 < (y311.length : Int)
     rotate_left
     · rw [if_neg c149] at H; exact absurd H (by simp)
     rw [if_pos c149] at H
     have c149b0 := decide_eq_true c149
     clear c149
     simp only [Option.some.injEq, Prod.mk.injEq] at H
     obtain ⟨rfl, rfl, rfl, rfl, rfl, rfl⟩ := H
     go_wp2_with (first | ((with_reducible refine gate_callee (f := 28) rfl ?_); refine goesL_ (some 49) rfl rfl Tryd.func28 (by kernel_rfl) rfl #[.pointer (some ⟨g, 0, none⟩), .int .i64 20] rfl zb5_7 ?_; (with_reducible refine (spec_l01Src_one.calls g s0_0 x1001_1 x1002_1 x1003_1 20 true t304 t305 t306 w0 _ ?side1 ?side2 A143.out).mono ?_); (case side1 => repeat ((with_reducible (exact HI0.out)))); (case side2 => repeat ((with_reducible (exact HB.out)))); rintro e w150 ⟨rfl, hi, hb, hk⟩; refine ⟨_, rfl, ?_⟩; replace HO_254002 := Aside0.mk (Kd.R_mono (Kd.R_keep (IsS60.apart (show IsS60 w0 _ g s0_0 x1001_1 x1002_1 x1003_1 from by repeat ((with_reducible (exact HI0.out)))) zb8_7 (by decide)) hk (fun _ h => h.2)) (fun _ h => h.1)); replace BK252 := Aside0.mk (KeepBut.blk hk (g' := gb252) (o := .cells #[.string (⟨#[]⟩ : ByteArray), .int .i64 0, .slice none 0 0] 25 (0, 0)) zb1_7 NB252_0.out (by simp)); replace BK253 := Aside0.mk (KeepBut.blk hk (g' := gb253) (o := .cells #[.string x254000_1, .int .i64 x254001_1, u254002] 25 (0, 0)) zb9_7 NB253_0.out (by simp)); replace HK := Aside0.mk (KeepBut.trans zb6_7 hk (.inl rfl)); replace HB := Aside0.mk (hb); replace HI0 := Aside0.mk (hi); (try clear hb); (try clear hk); (try clear hi)) | ((with_reducible refine gate_callee (f := 25) rfl ?_); refine goesL_ (some 51) rfl rfl Tryd.func25 (by kernel_rfl) rfl #[.pointer (some ⟨g, 0, none⟩), .int .i64 4] rfl zb5_7 ?_; (with_reducible refine (spec_l01Src_n.calls g s0_0 t304 t305 t306 4 t307 t308 t309 t310 w0 _ ?side1 ?side2 A145.out).mono ?_); (case side1 => repeat ((with_reducible (exact HI0.out)))); (case side2 => repeat ((with_reducible (exact HB.out)))); rintro e w151 ⟨rfl, hi, hb, hk⟩; refine ⟨_, rfl, ?_⟩; replace HO_254002 := Aside0.mk (Kd.R_mono (Kd.R_keep (IsS60.apart (show IsS60 w0 _ g s0_0 t304 t305 t306 from by repeat ((with_reducible (exact HI0.out)))) zb8_7 (by decide)) hk (fun _ h => h.2)) (fun _ h => h.1)); replace BK252 := Aside0.mk (KeepBut.blk hk (g' := gb252) (o := .cells #[.string (⟨#[]⟩ : ByteArray), .int .i64 0, .slice none 0 0] 25 (0, 0)) zb1_7 NB252_0.out (by simp)); replace BK253 := Aside0.mk (KeepBut.blk hk (g' := gb253) (o := .cells #[.string x254000_1, .int .i64 x254001_1, u254002] 25 (0, 0)) zb9_7 NB253_0.out (by simp)); replace HK := Aside0.mk (KeepBut.trans zb6_7 hk (.inl rfl)); replace HB := Aside0.mk (hb); replace HI0 := Aside0.mk (hi); (try clear hb); (try clear hk); (try clear hi)) | ((with_reducible refine gate_dst (N := 64) rfl ?_); refine Kd.R_lit (Kd.int .i64) _ 2 ?hg (N := 64) ?hd (xs := ([0, 1, 1000000000, 1000000001] : List Int)) (inner := [.int .i64 0, .int .i64 1, .int .i64 1000000000, .int .i64 1000000001]) (ok := fun _ => True) (okp := fun _ => True) ?hr ?hp (fun _ hk => hk) trivial (Below.refl _ _) (Nat.le_refl _) (by simp) ?_; (case hd => rfl); (case hg => rfl); (case hr => (go_simp; done)); (case hp => exact (Reps.one (show Kd.M (Kd.int .i64) _ _ _ 0 [.int .i64 0] from rfl) (Reps.one (show Kd.M (Kd.int .i64) _ _ _ 1 [.int .i64 1] from rfl) (Reps.one (show Kd.M (Kd.int .i64) _ _ _ 1000000000 [.int .i64 1000000000] from rfl) (Reps.one (show Kd.M (Kd.int .i64) _ _ _ 1000000001 [.int .i64 1000000001] from rfl) (Reps.none _ _)))))); intro v312 w152 ho153 hb hg_ hnew_; clear hg_ hnew_; ((rw [← Ny311.out] at ho153)); replace HO_254002 := Aside0.mk (Kd.R_below zb8_7 hb); have HO313 := Aside0.mk (Kd.R_lower ho153 (keep_size (w := w) (g := g) (row := none) zb6_7)); replace BK252 := bkb BK252 hb; replace BK253 := bkb BK253 hb; replace HI0 := Aside0.mk (IsS60.below zb10_7 hb); replace HK := Aside0.mk (KeepBut.trans zb6_7 (KeepBut.of_below hb g none) (.inl rfl)); replace HB := Aside0.mk (below_step zb11_7 hb); clear hb ho153) | ((with_reducible refine gate_callee (f := 25) rfl ?_); refine goesL_ (some 66) rfl rfl Tryd.func25 (by kernel_rfl) rfl #[.pointer (some ⟨g, 0, none⟩), .int .i64 4] rfl zb5_7 ?_; (with_reducible refine (spec_l01Src_n.calls g s0_0 t308 t309 t310 4 t314 t315 t316 t317 w0 _ ?side1 ?side2 A147.out).mono ?_); (case side1 => repeat ((with_reducible (exact HI0.out)))); (case side2 => repeat ((with_reducible (exact HB.out)))); rintro e w154 ⟨rfl, hi, hb, hk⟩; refine ⟨_, rfl, ?_⟩; replace HO_254002 := Aside0.mk (Kd.R_mono (Kd.R_keep (IsS60.apart (show IsS60 w0 _ g s0_0 t308 t309 t310 from by repeat ((with_reducible (exact HI0.out)))) zb8_7 (by decide)) hk (fun _ h => h.2)) (fun _ h => h.1)); replace BK252 := Aside0.mk (KeepBut.blk hk (g' := gb252) (o := .cells #[.string (⟨#[]⟩ : ByteArray), .int .i64 0, .slice none 0 0] 25 (0, 0)) zb1_7 NB252_0.out (by simp)); replace BK253 := Aside0.mk (KeepBut.blk hk (g' := gb253) (o := .cells #[.string x254000_1, .int .i64 x254001_1, u254002] 25 (0, 0)) zb9_7 NB253_0.out (by simp)); replace HO313 := Aside0.mk (Kd.R_mono (Kd.R_keep (IsS60.apart (show IsS60 w0 _ g s0_0 t308 t309 t310 from by repeat ((with_reducible (exact HI0.out)))) (by exact HO313.out) (by decide)) hk (fun _ h => h.2)) (fun _ h => h.1)); replace HK := Aside0.mk (KeepBut.trans zb6_7 hk (.inl rfl)); replace HB := Aside0.mk (hb); replace HI0 := Aside0.mk (hi); (try clear hb); (try clear hk); (try clear hi); obtain ⟨Ao155, co155, eo155⟩ := Kd.R_slice HO313.out; subst eo155; have p318 : 0 ≤ (t314 : Int) := of_decide_eq_true zb26_7; have q318 : t314 < (y311.length : Int) := of_decide_eq_true zb26_7; obtain ⟨ad318, e318, hx318_0⟩ := Kd.at_int (Kd.R_reads' HO313.out).2.2 t314 p318 q318; cases e318; replace p318 := eq_true p318; replace q318 := eq_true q318; have hnb156 := NB253_252.out; have hnc156 := NB252_253.out; have hnb157 := NB253_0.out; have hnc157 := NB0_253.out; obtain ⟨z0, z1, z2, z3, z4, z5⟩ := bz3 BK253.out; have hnb159 := NB252_0.out; have hnc159 := NB0_252.out; obtain ⟨z0, z1, z2, z3, z4, z5⟩ := bz3 BK252.out; obtain ⟨Ao161, co161, eo161⟩ := Kd.R_slice HO_254002.out; subst eo161))
     refine bodyPost_ret (results_cell_row rfl _ _ gb252 25 #[.string x254000_1, .int .i64 (rd y311 t314), .slice Ao161 x254002_1.length co161] (0, 0) _ rfl (by apply bp3; refine blk_far ?_ NB252_253.out _; exact BK252.out) Tryd.underlying25 rfl (by kernel_rfl)) rfl ?_
     exact ⟨_, by rfl, by exact Kd.R_mono (rfa (rfa (rfa (rfa (Kd.R_types (Kd.R_types HO_254002.out BK253.out (by decide)) BK252.out (by decide)) (fun _ hk => hk.1.2)) (fun _ h => h.2)) (fun _ h => h.2)) (fun _ h => h.2)) (fun _ hk => trivial), by repeat ((with_reducible first | exact HI0.out | refine IsS60.far ?_ NB0_252.out _ | refine IsS60.far ?_ NB0_253.out _)), by repeat ((with_reducible first | exact HB.out | refine below_set ?_ GE252.out | refine below_set ?_ GE253.out)), by repeat ((with_reducible first | exact HK.out | refine keep_far ?_ GW252.out _ | refine keep_far ?_ GW253.out _))⟩
    rw [if_neg c146] at H
    have c146b0 : (t307 == 0) = false := beq_eq_false_iff_ne.mpr c146
    have c146b1 : (t307 != 0) = true := bne_iff_ne.mpr c146
    by_cases c162 : t307 = 1
    ·
     rw [if_pos c162] at H
     have c162b0 : (t307 == 1) = true := beq_iff_eq.mpr c162
     have c162b1 : (t307 != 1) = false := bne_eq_false_iff_eq.mpr c162
     clear c162
     by_cases c163 : x254002_1.length < 2932031007402
     rotate_left
     · rw [if_neg c163] at H; exact absurd H (by simp)
     rw [if_pos c163] at H
     have LMc163 := Aside0.mk c163
     clear c163
     obtain ⟨y319, hy319⟩ : ∃ y_ : List (S43), y_ = (x254002_1 ++ [(⟨(⟨#[98]⟩ : ByteArray), x254001_1, 0, (⟨#[]⟩ : ByteArray)⟩ : S43)]) := ⟨_, rfl⟩
     replace H : (some (x254000_1, x254001_1, y319, t308, t309, t310)) = some (r1, r2, r3, r4, r5, r6) := by (rw [hy319]; with_reducible exact H)
     have Ny319 := Aside0.mk hy319
     clear hy319
     simp only [Option.some.injEq, Prod.mk.injEq] at H
     obtain ⟨rfl, rfl, rfl, rfl, rfl, rfl⟩ := H
     go_wp2_with (first | ((with_reducible refine gate_callee (f := 28) rfl ?_); refine goesL_ (some 49) rfl rfl Tryd.func28 (by kernel_rfl) rfl #[.pointer (some ⟨g, 0, none⟩), .int .i64 20] rfl zb5_7 ?_; (with_reducible refine (spec_l01Src_one.calls g s0_0 x1001_1 x1002_1 x1003_1 20 true t304 t305 t306 w0 _ ?side1 ?side2 A143.out).mono ?_); (case side1 => repeat ((with_reducible (exact HI0.out)))); (case side2 => repeat ((with_reducible (exact HB.out)))); rintro e w164 ⟨rfl, hi, hb, hk⟩; refine ⟨_, rfl, ?_⟩; replace HO_254002 := Aside0.mk (Kd.R_mono (Kd.R_keep (IsS60.apart (show IsS60 w0 _ g s0_0 x1001_1 x1002_1 x1003_1 from by repeat ((with_reducible (exact HI0.out)))) zb8_7 (by decide)) hk (fun _ h => h.2)) (fun _ h => h.1)); replace BK252 := Aside0.mk (KeepBut.blk hk (g' := gb252) (o := .cells #[.string (⟨#[]⟩ : ByteArray), .int .i64 0, .slice none 0 0] 25 (0, 0)) zb1_7 NB252_0.out (by simp)); replace BK253 := Aside0.mk (KeepBut.blk hk (g' := gb253) (o := .cells #[.string x254000_1, .int .i64 x254001_1, u254002] 25 (0, 0)) zb9_7 NB253_0.out (by simp)); replace HK := Aside0.mk (KeepBut.trans zb6_7 hk (.inl rfl)); replace HB := Aside0.mk (hb); replace HI0 := Aside0.mk (hi); (try clear hb); (try clear hk); (try clear hi)) | ((with_reducible refine gate_callee (f := 25) rfl ?_); refine goesL_ (some 51) rfl rfl Tryd.func25 (by kernel_rfl) rfl #[.pointer (some ⟨g, 0, none⟩), .int .i64 4] rfl zb5_7 ?_; (with_reducible refine (spec_l01Src_n.calls g s0_0 t304 t305 t306 4 t307 t308 t309 t310 w0 _ ?side1 ?side2 A145.out).mono ?_); (case side1 => repeat ((with_reducible (exact HI0.out)))); (case side2 => repeat ((with_reducible (exact HB.out)))); rintro e w165 ⟨rfl, hi, hb, hk⟩; refine ⟨_, rfl, ?_⟩; replace HO_254002 := Aside0.mk (Kd.R_mono (Kd.R_keep (IsS60.apart (show IsS60 w0 _ g s0_0 t304 t305 t306 from by repeat ((with_reducible (exact HI0.out)))) zb8_7 (by decide)) hk (fun _ h => h.2)) (fun _ h => h.1)); replace BK252 := Aside0.mk (KeepBut.blk hk (g' := gb252) (o := .cells #[.string (⟨#[]⟩ : ByteArray), .int .i64 0, .slice none 0 0] 25 (0, 0)) zb1_7 NB252_0.out (by simp)); replace BK253 := Aside0.mk (KeepBut.blk hk (g' := gb253) (o := .cells #[.string x254000_1, .int .i64 x254001_1, u254002] 25 (0, 0)) zb9_7 NB253_0.out (by simp)); replace HK := Aside0.mk (KeepBut.trans zb6_7 hk (.inl rfl)); replace HB := Aside0.mk (hb); replace HI0 := Aside0.mk (hi); (try clear hb); (try clear hk); (try clear hi); have hnb166 := NB253_252.out; have hnc166 := NB252_253.out; have hnb167 := NB253_0.out; have hnc167 := NB0_253.out; obtain ⟨z0, z1, z2, z3, z4, z5⟩ := bz3 BK253.out) | ((with_reducible refine gate_builtin (b := .append) (xs := #[.tmp 73, .tmp 77]) rfl ?_); at_builtin; refine Kd.R_append k43 w.heap.size rfl (.tmp 73) (.tmp 77) 23 43 (.agg #[(.string ⟨#[]⟩), (.int .i64 0), (.int .i64 0), (.string ⟨#[]⟩)]) 48 rfl Tryd.underlying23 info43 rfl (by decide) (by omega) u254002 x254002_1 (⟨(⟨#[98]⟩ : ByteArray), x254001_1, 0, (⟨#[]⟩ : ByteArray)⟩ : S43) [.string (⟨#[98]⟩ : ByteArray), .int .i64 x254001_1, .int .i64 0, .string (⟨#[]⟩ : ByteArray)] (fun _ => True) (fun _ => False) rfl rfl ?aP (fun _ hk => hk.elim) ?aF ?aO (Below.refl _ _) ?aS ?aL ?_; (case aP => exact k43_mkM _ _ _ (⟨(⟨#[98]⟩ : ByteArray), x254001_1, 0, (⟨#[]⟩ : ByteArray)⟩ : S43)); (case aF => exact (fun _ _ => trivial)); (case aO => exact zb8_7); (case aS => exact (keep_size (w := w) (g := g) (row := none) zb6_7)); (case aL => have := LMc163.out; omega); intro v320 w169 ho hb hg hat; rw [← Ny319.out] at ho; replace BK252 := Aside0.mk (blk_grown (g := gb252) (o := .cells #[.string (⟨#[]⟩ : ByteArray), .int .i64 0, .slice none 0 0] 25 (0, 0)) zb1_7 hg (Kd.R_ne HO_254002.out BK252.out (by decide))); replace BK253 := Aside0.mk (blk_grown (g := gb253) (o := .cells #[.string x254000_1, .int .i64 x254001_1, u254002] 25 (0, 0)) zb9_7 hg (Kd.R_ne HO_254002.out BK253.out (by decide))); replace HI0 := Aside0.mk (IsS60.grown zb10_7 hg (IsS60.own_ne HI0.out HO_254002.out (by decide))); replace HB := Aside0.mk (below_weaken zb11_7 HL.out hb); replace HK := Aside0.mk (KeepBut.trans zb6_7 (KeepBut.of_grown hg g) (Kd.R_base2 HO_254002.out)); have HO321 := Aside0.mk (ho); clear HO_254002; clear ho hb hg hat; obtain ⟨Ao170, co170, eo170⟩ := Kd.R_slice HO321.out; subst eo170; obtain ⟨z0, z1, z2, z3, z4, z5⟩ := bz3 BK253.out; have hnb172 := NB252_0.out; have hnc172 := NB0_252.out; obtain ⟨z0, z1, z2, z3, z4, z5⟩ := bz3 BK252.out))
     refine bodyPost_ret (results_cell_row rfl _ _ gb252 25 #[.string x254000_1, .int .i64 x254001_1, .slice Ao170 y319.length co170] (0, 0) _ rfl (by apply bp3; refine blk_far ?_ NB252_253.out _; exact BK252.out) Tryd.underlying25 rfl (by kernel_rfl)) rfl ?_
     exact ⟨_, by rfl, by exact Kd.R_mono (rfa (rfa (rfa (rfa (Kd.R_types (Kd.R_types HO321.out BK253.out (by decide)) BK252.out (by decide)) (fun _ hk => hk.1.2)) (fun _ h => h.2)) (fun _ h => h.2)) (fun _ h => h.2)) (fun _ hk => trivial), by repeat ((with_reducible first | exact HI0.out | refine IsS60.far ?_ NB0_252.out _ | refine IsS60.far ?_ NB0_253.out _)), by repeat ((with_reducible first | exact HB.out | refine below_set ?_ GE252.out | refine below_set ?_ GE253.out)), by repeat ((with_reducible first | exact HK.out | refine keep_far ?_ GW252.out _ | refine keep_far ?_ GW253.out _))⟩
    rw [if_neg c162] at H
    have c162b0 : (t307 == 1) = false := beq_eq_false_iff_ne.mpr c162
    have c162b1 : (t307 != 1) = true := bne_iff_ne.mpr c162
    by_cases c174 : t307 = 2
    ·
     rw [if_pos c174] at H
     have c174b0 : (t307 == 2) = true := beq_iff_eq.mpr c174
     have c174b1 : (t307 != 2) = false := bne_eq_false_iff_eq.mpr c174
     clear c174
     simp only [Option.some.injEq, Prod.mk.injEq] at H
     obtain ⟨rfl, rfl, rfl, rfl, rfl, rfl⟩ := H
     go_wp2_with (first | ((with_reducible refine gate_callee (f := 28) rfl ?_); refine goesL_ (some 49) rfl rfl Tryd.func28 (by kernel_rfl) rfl #[.pointer (some ⟨g, 0, none⟩), .int .i64 20] rfl zb5_7 ?_; (with_reducible refine (spec_l01Src_one.calls g s0_0 x1001_1 x1002_1 x1003_1 20 true t304 t305 t306 w0 _ ?side1 ?side2 A143.out).mono ?_); (case side1 => repeat ((with_reducible (exact HI0.out)))); (case side2 => repeat ((with_reducible (exact HB.out)))); rintro e w175 ⟨rfl, hi, hb, hk⟩; refine ⟨_, rfl, ?_⟩; replace HO_254002 := Aside0.mk (Kd.R_mono (Kd.R_keep (IsS60.apart (show IsS60 w0 _ g s0_0 x1001_1 x1002_1 x1003_1 from by repeat ((with_reducible (exact HI0.out)))) zb8_7 (by decide)) hk (fun _ h => h.2)) (fun _ h => h.1)); replace BK252 := Aside0.mk (KeepBut.blk hk (g' := gb252) (o := .cells #[.string (⟨#[]⟩ : ByteArray), .int .i64 0, .slice none 0 0] 25 (0, 0)) zb1_7 NB252_0.out (by simp)); replace BK253 := Aside0.mk (KeepBut.blk hk (g' := gb253) (o := .cells #[.string x254000_1, .int .i64 x254001_1, u254002] 25 (0, 0)) zb9_7 NB253_0.out (by simp)); replace HK := Aside0.mk (KeepBut.trans zb6_7 hk (.inl rfl)); replace HB := Aside0.mk (hb); replace HI0 := Aside0.mk (hi); (try clear hb); (try clear hk); (try clear hi)) | ((with_reducible refine gate_callee (f := 25) rfl ?_); refine goesL_ (some 51) rfl rfl Tryd.func25 (by kernel_rfl) rfl #[.pointer (some ⟨g, 0, none⟩), .int .i64 4] rfl zb5_7 ?_; (with_reducible refine (spec_l01Src_n.calls g s0_0 t304 t305 t306 4 t307 t308 t309 t310 w0 _ ?side1 ?side2 A145.out).mono ?_); (case side1 => repeat ((with_reducible (exact HI0.out)))); (case side2 => repeat ((with_reducible (exact HB.out)))); rintro e w176 ⟨rfl, hi, hb, hk⟩; refine ⟨_, rfl, ?_⟩; replace HO_254002 := Aside0.mk (Kd.R_mono (Kd.R_keep (IsS60.apart (show IsS60 w0 _ g s0_0 t304 t305 t306 from by repeat ((with_reducible (exact HI0.out)))) zb8_7 (by decide)) hk (fun _ h => h.2)) (fun _ h => h.1)); replace BK252 := Aside0.mk (KeepBut.blk hk (g' := gb252) (o := .cells #[.string (⟨#[]⟩ : ByteArray), .int .i64 0, .slice none 0 0] 25 (0, 0)) zb1_7 NB252_0.out (by simp)); replace BK253 := Aside0.mk (KeepBut.blk hk (g' := gb253) (o := .cells #[.string x254000_1, .int .i64 x254001_1, u254002] 25 (0, 0)) zb9_7 NB253_0.out (by simp)); replace HK := Aside0.mk (KeepBut.trans zb6_7 hk (.inl rfl)); replace HB := Aside0.mk (hb); replace HI0 := Aside0.mk (hi); (try clear hb); (try clear hk); (try clear hi); have hnb177 := NB253_252.out; have hnc177 := NB252_253.out; have hnb178 := NB253_0.out; have hnc178 := NB0_253.out; obtain ⟨z0, z1, z2, z3, z4, z5⟩ := bz3 BK253.out; have hnb180 := NB252_0.out; have hnc180 := NB0_252.out; obtain ⟨z0, z1, z2, z3, z4, z5⟩ := bz3 BK252.out; obtain ⟨Ao182, co182, eo182⟩ := Kd.R_slice HO_254002.out; subst eo182))
     refine bodyPost_ret (results_cell_row rfl _ _ gb252 25 #[.string (⟨#[65]⟩ : ByteArray), .int .i64 x254001_1, .slice Ao182 x254002_1.length co182] (0, 0) _ rfl (by apply bp3; refine blk_far ?_ NB252_253.out _; exact BK252.out) Tryd.underlying25 rfl (by kernel_rfl)) rfl ?_
     exact ⟨_, by rfl, by exact Kd.R_mono (rfa (rfa (rfa (rfa (Kd.R_types (Kd.R_types HO_254002.out BK253.out (by decide)) BK252.out (by decide)) (fun _ hk => hk.1.2)) (fun _ h => h.2)) (fun _ h => h.2)) (fun _ h => h.2)) (fun _ hk => trivial), by repeat ((with_reducible first | exact HI0.out | refine IsS60.far ?_ NB0_252.out _ | refine IsS60.far ?_ NB0_253.out _)), by repeat ((with_reducible first | exact HB.out | refine below_set ?_ GE252.out | refine below_set ?_ GE253.out)), by repeat ((with_reducible first | exact HK.out | refine keep_far ?_ GW252.out _ | refine keep_far ?_ GW253.out _))⟩
    rw [if_neg c174] at H
    have c174b0 : (t307 == 2) = false := beq_eq_false_iff_ne.mpr c174
    have c174b1 : (t307 != 2) = true := bne_iff_ne.mpr c174
    by_cases c183 : (x254002_1.length : Int) > 0
    rotate_left
    ·
     rw [if_neg c183] at H
     have c183b0 : decide (0 < (x254002_1.length : Int)) = false := decide_eq_false c183
     have c183b1 : decide (0 < x254002_1.length) = false := decide_eq_false (by omega)
     clear c183
     simp only [Option.some.injEq, Prod.mk.injEq] at H
     obtain ⟨rfl, rfl, rfl, rfl, rfl, rfl⟩ := H
     go_wp2_with (first | ((with_reducible refine gate_callee (f := 28) rfl ?_); refine goesL_ (some 49) rfl rfl Tryd.func28 (by kernel_rfl) rfl #[.pointer (some ⟨g, 0, none⟩), .int .i64 20] rfl zb5_7 ?_; (with_reducible refine (spec_l01Src_one.calls g s0_0 x1001_1 x1002_1 x1003_1 20 true t304 t305 t306 w0 _ ?side1 ?side2 A143.out).mono ?_); (case side1 => repeat ((with_reducible (exact HI0.out)))); (case side2 => repeat ((with_reducible (exact HB.out)))); rintro e w200 ⟨rfl, hi, hb, hk⟩; refine ⟨_, rfl, ?_⟩; replace HO_254002 := Aside0.mk (Kd.R_mono (Kd.R_keep (IsS60.apart (show IsS60 w0 _ g s0_0 x1001_1 x1002_1 x1003_1 from by repeat ((with_reducible (exact HI0.out)))) zb8_7 (by decide)) hk (fun _ h => h.2)) (fun _ h => h.1)); replace BK252 := Aside0.mk (KeepBut.blk hk (g' := gb252) (o := .cells #[.string (⟨#[]⟩ : ByteArray), .int .i64 0, .slice none 0 0] 25 (0, 0)) zb1_7 NB252_0.out (by simp)); replace BK253 := Aside0.mk (KeepBut.blk hk (g' := gb253) (o := .cells #[.string x254000_1, .int .i64 x254001_1, u254002] 25 (0, 0)) zb9_7 NB253_0.out (by simp)); replace HK := Aside0.mk (KeepBut.trans zb6_7 hk (.inl rfl)); replace HB := Aside0.mk (hb); replace HI0 := Aside0.mk (hi); (try clear hb); (try clear hk); (try clear hi)) | ((with_reducible refine gate_callee (f := 25) rfl ?_); refine goesL_ (some 51) rfl rfl Tryd.func25 (by kernel_rfl) rfl #[.pointer (some ⟨g, 0, none⟩), .int .i64 4] rfl zb5_7 ?_; (with_reducible refine (spec_l01Src_n.calls g s0_0 t304 t305 t306 4 t307 t308 t309 t310 w0 _ ?side1 ?side2 A145.out).mono ?_); (case side1 => repeat ((with_reducible (exact HI0.out)))); (case side2 => repeat ((with_reducible (exact HB.out)))); rintro e w201 ⟨rfl, hi, hb, hk⟩; refine ⟨_, rfl, ?_⟩; replace HO_254002 := Aside0.mk (Kd.R_mono (Kd.R_keep (IsS60.apart (show IsS60 w0 _ g s0_0 t304 t305 t306 from by repeat ((with_reducible (exact HI0.out)))) zb8_7 (by decide)) hk (fun _ h => h.2)) (fun _ h => h.1)); replace BK252 := Aside0.mk (KeepBut.blk hk (g' := gb252) (o := .cells #[.string (⟨#[]⟩ : ByteArray), .int .i64 0, .slice none 0 0] 25 (0, 0)) zb1_7 NB252_0.out (by simp)); replace BK253 := Aside0.mk (KeepBut.blk hk (g' := gb253) (o := .cells #[.string x254000_1, .int .i64 x254001_1, u254002] 25 (0, 0)) zb9_7 NB253_0.out (by simp)); replace HK := Aside0.mk (KeepBut.trans zb6_7 hk (.inl rfl)); replace HB := Aside0.mk (hb); replace HI0 := Aside0.mk (hi); (try clear hb); (try clear hk); (try clear hi); have hnb202 := NB253_252.out; have hnc202 := NB252_253.out; have hnb203 := NB253_0.out; have hnc203 := NB0_253.out; obtain ⟨z0, z1, z2, z3, z4, z5⟩ := bz3 BK253.out; obtain ⟨Ao205, co205, eo205⟩ := Kd.R_slice HO_254002.out; subst eo205; have hnb206 := NB252_0.out; have hnc206 := NB0_252.out; obtain ⟨z0, z1, z2, z3, z4, z5⟩ := bz3 BK252.out))
     refine bodyPost_ret (results_cell_row rfl _ _ gb252 25 #[.string x254000_1, .int .i64 x254001_1, .slice Ao205 x254002_1.length co205] (0, 0) _ rfl zb27_7 Tryd.underlying25 rfl (by kernel_rfl)) rfl ?_
     exact ⟨_, by rfl, by exact Kd.R_mono (rfa (rfa (rfa (Kd.R_types HO_254002.out BK252.out (by decide)) (fun _ h => h.2)) (fun _ h => h.2)) (fun _ h => h.2)) (fun _ hk => trivial), by repeat ((with_reducible first | exact HI0.out | refine IsS60.far ?_ NB0_252.out _)), by repeat ((with_reducible first | exact HB.out | refine below_set ?_ GE252.out)), by repeat ((with_reducible first | exact HK.out | refine keep_far ?_ GW252.out _))⟩
    rw [if_pos c183] at H
    have c183b0 : decide (0 < (x254002_1.length : Int)) = true := decide_eq_true c183
    have c183b1 : decide (0 < x254002_1.length) = true := decide_eq_true (by omega)
    clear c183
    replace H := Option.bind_eq_some_iff.mp H
    obtain ⟨⟨t322, t323, t324, t325⟩, A1840, H⟩ := H
    (try dsimp -simprocs only at H)
    have A184 := Aside0.mk A1840
    clear A1840
    by_cases c185 : 0 < (x254002_1.length : Int)
    rotate_left
    · rw [if_neg c185] at H; exact absurd H (by simp)
    rw [if_pos c185] at H
    have c185b0 := decide_eq_true c185
    have c185b1 : decide (0 < x254002_1.length) = true := decide_eq_true (by omega)
    clear c185
    obtain ⟨y326, hy326⟩ : ∃ y_ : List (S43), y_ = (x254002_1.set (0 : Int).toNat (⟨(rd_T43 x254002_1 0).f0, (rd_T43 x254002_1 0).f1, t322, (rd_T43 x254002_1 0).f3⟩ : S43)) := ⟨_, rfl⟩
    replace H : (some (x254000_1, x254001_1, y326, t323, t324, t325)) = some (r1, r2, r3, r4, r5, r6) := by (rw [hy326]; with_reducible exact H)
    have Ny326 := Aside0.mk hy326
    clear hy326
    simp only [Option.some.injEq, Prod.mk.injEq] at H
    obtain ⟨rfl, rfl, rfl, rfl, rfl, rfl⟩ := H
    try go_wp2_with (first | ((with_reducible refine gate_callee (f := 28) rfl ?_); refine goesL_ (some 49) rfl rfl Tryd.func28 (by kernel_rfl) rfl #[.pointer (some ⟨g, 0, none⟩), .int .i64 20] rfl zb5_7 ?_; (with_reducible refine (spec_l01Src_one.calls g s0_0 x1001_1 x1002_1 x1003_1 20 true t304 t305 t306 w0 _ ?side1 ?side2 A143.out).mono ?_); (case side1 => repeat ((with_reducible (exact HI0.out)))); (case side2 => repeat ((with_reducible (exact HB.out)))); rintro e w187 ⟨rfl, hi, hb, hk⟩; refine ⟨_, rfl, ?_⟩; replace HO_254002 := Aside0.mk (Kd.R_mono (Kd.R_keep (IsS60.apart (show IsS60 w0 _ g s0_0 x1001_1 x1002_1 x1003_1 from by repeat ((with_reducible (exact HI0.out)))) zb8_7 (by decide)) hk (fun _ h => h.2)) (fun _ h => h.1)); replace BK252 := Aside0.mk (KeepBut.blk hk (g' := gb252) (o := .cells #[.string (⟨#[]⟩ : ByteArray), .int .i64 0, .slice none 0 0] 25 (0, 0)) zb1_7 NB252_0.out (by simp)); replace BK253 := Aside0.mk (KeepBut.blk hk (g' := gb253) (o := .cells #[.string x254000_1, .int .i64 x254001_1, u254002] 25 (0, 0)) zb9_7 NB253_0.out (by simp)); replace HK := Aside0.mk (KeepBut.trans zb6_7 hk (.inl rfl)); replace HB := Aside0.mk (hb); replace HI0 := Aside0.mk (hi); (try clear hb); (try clear hk); (try clear hi)) | ((with_reducible refine gate_callee (f := 25) rfl ?_); refine goesL_ (some 51) rfl rfl Tryd.func25 (by kernel_rfl) rfl #[.pointer (some ⟨g, 0, none⟩), .int .i64 4] rfl zb5_7 ?_; (with_reducible refine (spec_l01Src_n.calls g s0_0 t304 t305 t306 4 t307 t308 t309 t310 w0 _ ?side1 ?side2 A145.out).mono ?_); (case side1 => repeat ((with_reducible (exact HI0.out)))); (case side2 => repeat ((with_reducible (exact HB.out)))); rintro e w188 ⟨rfl, hi, hb, hk⟩; refine ⟨_, rfl, ?_⟩; replace HO_254002 := Aside0.mk (Kd.R_mono (Kd.R_keep (IsS60.apart (show IsS60 w0 _ g s0_0 t304 t305 t306 from by repeat ((with_reducible (exact HI0.out)))) zb8_7 (by decide)) hk (fun _ h => h.2)) (fun _ h => h.1)); replace BK252 := Aside0.mk (KeepBut.blk hk (g' := gb252) (o := .cells #[.string (⟨#[]⟩ : ByteArray), .int .i64 0, .slice none 0 0] 25 (0, 0)) zb1_7 NB252_0.out (by simp)); replace BK253 := Aside0.mk (KeepBut.blk hk (g' := gb253) (o := .cells #[.string x254000_1, .int .i64 x254001_1, u254002] 25 (0, 0)) zb9_7 NB253_0.out (by simp)); replace HK := Aside0.mk (KeepBut.trans zb6_7 hk (.inl rfl)); replace HB := Aside0.mk (hb); replace HI0 := Aside0.mk (hi); (try clear hb); (try clear hk); (try clear hi); have hnb189 := NB253_252.out; have hnc189 := NB252_253.out; have hnb190 := NB253_0.out; have hnc190 := NB0_253.out; obtain ⟨z0, z1, z2, z3, z4, z5⟩ := bz3 BK253.out; obtain ⟨Ao192, co192, eo192⟩ := Kd.R_slice HO_254002.out; subst eo192))
    replace HO_254002 := Aside0.mk (Kd.R_drew HO_254002.out)
    replace BK252 := Aside0.mk (blk_drew BK252.out)
    replace BK253 := Aside0.mk (blk_drew BK253.out)
    replace HI0 := Aside0.mk (IsS60.drew HI0.out)
    replace HK := Aside0.mk (keep_drew HK.out)
    replace HB := Aside0.mk (below_drew1 HB.out)
    refine start_ (n := 7) (S := fun w' => w'.cell? ⟨gb253, 0, none⟩ = some (.string x254000_1) ∧ w'.cell? ⟨gb253, 1, none⟩ = some (.int .i64 x254001_1) ∧ w'.cell? ⟨gb253, 2, none⟩ = some (.slice Ao192 x254002_1.length co192)) (ds := [6]) zm12_7 (by kernel_rfl) rfl rfl ⟨(blk_cell BK253.out 0).trans rfl, (blk_cell BK253.out 1).trans rfl, (blk_cell BK253.out 2).trans rfl⟩ (fun hHeld => ?_)
    generalize w188.drew = w193 at HO_254002 BK252 BK253 HI0 HK HB hHeld ⊢
    refine pure_ (i := 0) (N := some 56) (v := ?_) (a' := ?_) zm13_7 rfl rfl (by kernel_rfl) (fun _ _ _ h => h) (Or.inl ⟨by rfl, ?_⟩) ?_ ?_
    rotate_left
    · intro w'; go_simp; with_reducible rfl
    rotate_left
    · simp only [Act.put, List.setIfInBounds_toArray, List.set_cons_zero, List.set_cons_succ, i64_w, i32_w]; rfl
    refine pure_ (i := 2) (N := some 58) (v := ?_) (a' := ?_) zm14_7 rfl rfl (by kernel_rfl) (fun _ _ _ h => h) (Or.inl ⟨by rfl, ?_⟩) ?_ ?_
    rotate_left
    · intro w'; go_simp; with_reducible rfl
    rotate_left
    · simp only [Act.put, List.setIfInBounds_toArray, List.set_cons_zero, List.set_cons_succ, i64_w, i32_w]; rfl
    refine take_ (i := 1) (N := some 57) (v := ?_) (a' := ?_) zm15_7 rfl rfl (by kernel_rfl) (fun _ _ _ h => h) (Or.inl ⟨by rfl, ?_⟩) hHeld ?_ ?_
    rotate_left
    · rintro w' ⟨s0, s1, s2⟩; go_simp; with_reducible rfl
    rotate_left
    · simp only [Act.put, List.setIfInBounds_toArray, List.set_cons_zero, List.set_cons_succ, i64_w, i32_w]; rfl
    refine one_ (i := 3) (N := some 59) zm16_7 rfl rfl (by kernel_rfl) (by decide) (fun K hK => ?_)
    refine goes_ Tryd.func25 (by kernel_rfl) rfl #[.pointer (some ⟨g, 0, none⟩), .int .i64 5] (by rfl) rfl rfl zb5_7 ?_
    with_reducible refine (spec_l01Src_n.calls g s0_0 t308 t309 t310 5 t322 t323 t324 t325 w0 _ ?side1 ?side2 A184.out).mono ?_
    (case side1 => repeat ((with_reducible (exact HI0.out))))
    (case side2 => repeat ((with_reducible (exact HB.out))))
    rintro e w194 ⟨rfl, hi, hb, hk⟩
    refine ⟨_, rfl, ?_⟩
    replace HO_254002 := Aside0.mk (Kd.R_mono (Kd.R_keep (IsS60.apart (show IsS60 w0 _ g s0_0 t308 t309 t310 from by repeat ((with_reducible (exact HI0.out)))) zb8_7 (by decide)) hk (fun _ h => h.2)) (fun _ h => h.1))
    replace BK252 := Aside0.mk (KeepBut.blk hk (g' := gb252) (o := .cells #[.string (⟨#[]⟩ : ByteArray), .int .i64 0, .slice none 0 0] 25 (0, 0)) zb1_7 NB252_0.out (by simp))
    replace BK253 := Aside0.mk (KeepBut.blk hk (g' := gb253) (o := .cells #[.string x254000_1, .int .i64 x254001_1, .slice Ao192 x254002_1.length co192] 25 (0, 0)) zb9_7 NB253_0.out (by simp))
    replace HK := Aside0.mk (KeepBut.trans zb6_7 hk (.inl rfl))
    replace HB := Aside0.mk (hb)
    replace HI0 := Aside0.mk (hi)
    (try clear hb)
    (try clear hk)
    (try clear hi)
    have p186 : 0 ≤ (0 : Int) := (by omega)
    have q186 : (0 : Int) < ((x254002_1.length : Int) : Int) := of_decide_eq_true zb26_7
    have qi186 : (0 < x254002_1.length) = True := eq_true (by omega)
    obtain ⟨go186, co186, eo186, gb186, gl186, cl186, HG186⟩ := Kd.R_form HO_254002.out (by omega)
    ((cases eo186))
    have GB186 := Aside0.mk gb186
    have GG186 := Aside0.mk HG186
    clear gb186 gl186 HG186
    obtain ⟨ce186, hcl186, hM186, hcc186, hfr186⟩ := Kd.R_elem HO_254002.out z43 (0 : Int) p186 q186
    obtain rfl := k43_openM hM186
    have hx186_0 : World.cell? _ ⟨go186, (0 : Int).toNat * 4, none⟩ = some (.string ((rd_T43 x254002_1 0).f0)) := hcc186 0 _ rfl
    have hx186_1 : World.cell? _ ⟨go186, (0 : Int).toNat * 4 + 1, none⟩ = some (.int .i64 ((rd_T43 x254002_1 0).f1)) := hcc186 1 _ rfl
    have hx186_2 : World.cell? _ ⟨go186, (0 : Int).toNat * 4 + 2, none⟩ = some (.int .i64 ((rd_T43 x254002_1 0).f2)) := hcc186 2 _ rfl
    have hx186_3 : World.cell? _ ⟨go186, (0 : Int).toNat * 4 + 3, none⟩ = some (.string ((rd_T43 x254002_1 0).f3)) := hcc186 3 _ rfl
    have hf186_0 : World.frozen? _ ⟨go186, (0 : Int).toNat * 4, none⟩ = false := hfr186 0
    have hf186_1 : World.frozen? _ ⟨go186, (0 : Int).toNat * 4 + 1, none⟩ = false := hfr186 1
    have hf186_2 : World.frozen? _ ⟨go186, (0 : Int).toNat * 4 + 2, none⟩ = false := hfr186 2
    have hf186_3 : World.frozen? _ ⟨go186, (0 : Int).toNat * 4 + 3, none⟩ = false := hfr186 3
    clear hcl186 hcc186 hfr186 hM186
    (try rw [show ((0 : Int)).toNat = 0 from rfl] at hx186_0)
    (try simp only [Nat.reduceMul, Nat.zero_mul, Nat.zero_add, Nat.reduceAdd] at hx186_0)
    (try rw [show ((0 : Int)).toNat = 0 from rfl] at hf186_0)
    (try simp only [Nat.reduceMul, Nat.zero_mul, Nat.zero_add, Nat.reduceAdd] at hf186_0)
    (try rw [show ((0 : Int)).toNat = 0 from rfl] at hx186_1)
    (try simp only [Nat.reduceMul, Nat.zero_mul, Nat.zero_add, Nat.reduceAdd] at hx186_1)
    (try rw [show ((0 : Int)).toNat = 0 from rfl] at hf186_1)
    (try simp only [Nat.reduceMul, Nat.zero_mul, Nat.zero_add, Nat.reduceAdd] at hf186_1)
    (try rw [show ((0 : Int)).toNat = 0 from rfl] at hx186_2)
    (try simp only [Nat.reduceMul, Nat.zero_mul, Nat.zero_add, Nat.reduceAdd] at hx186_2)
    (try rw [show ((0 : Int)).toNat = 0 from rfl] at hf186_2)
    (try simp only [Nat.reduceMul, Nat.zero_mul, Nat.zero_add, Nat.reduceAdd] at hf186_2)
    (try rw [show ((0 : Int)).toNat = 0 from rfl] at hx186_3)
    (try simp only [Nat.reduceMul, Nat.zero_mul, Nat.zero_add, Nat.reduceAdd] at hx186_3)
    (try rw [show ((0 : Int)).toNat = 0 from rfl] at hf186_3)
    (try simp only [Nat.reduceMul, Nat.zero_mul, Nat.zero_add, Nat.reduceAdd] at hf186_3)
    replace p186 := eq_true p186
    replace q186 := eq_true q186
    have HN0_go186 := Aside0.mk (show g ≠ go186 from by have h_ := IsS60.own_ne HI0.out HO_254002.out (by decide); intro e_; exact h_ (by rw [e_]; rfl))
    obtain ⟨ce195, hcl195, hM195, hcc195, hfr195⟩ := Kd.R_elem HO_254002.out z43 (0 : Int) (by omega) (by have h_ : (0 : Int) < ((x254002_1.length : Int) : Int) := of_decide_eq_true zb26_7; (exact h_))
    obtain rfl := k43_openM hM195
    have HP195 := (Kd.R_seg HO_254002.out (0 : Int) (by omega) (by have h_ : (0 : Int) < ((x254002_1.length : Int) : Int) := of_decide_eq_true zb26_7; (exact h_)) (seg := [.int .i64 t322]) (j := 2) hcl195 hcc195 (show 3 ≤ 4 from by decide) (x' := (⟨(rd_T43 x254002_1 0).f0, (rd_T43 x254002_1 0).f1, t322, (rd_T43 x254002_1 0).f3⟩ : S43)) (k43_mkM _ _ _ (⟨(rd_T43 x254002_1 0).f0, (rd_T43 x254002_1 0).f1, t322, (rd_T43 x254002_1 0).f3⟩ : S43) ) (fun _ hk => hk)).1
    rw [← Ny326.out] at HP195
    have HQ195 := Aside0.mk HP195
    clear hcl195 hcc195 hfr195 hM195 HP195
    refine hK.out _ _ zk0_7 (fun hHeld => ?_)
    clear hK K
    refine zn (some 59) ?_
    refine pure_ (i := 4) (N := some 60) (v := ?_) (a' := ?_) zm17_7 rfl rfl (by kernel_rfl) (fun _ _ _ h => h) (Or.inl ⟨by rfl, ?_⟩) ?_ ?_
    rotate_left
    · intro w'; go_simp; with_reducible rfl
    rotate_left
    · simp only [Act.put, List.setIfInBounds_toArray, List.set_cons_zero, List.set_cons_succ, i64_w, i32_w]; rfl
    refine pure_ (i := 5) (N := some 61) (v := ?_) (a' := ?_) zm18_7 rfl rfl (by kernel_rfl) (fun _ _ _ h => h) (Or.inl ⟨by rfl, ?_⟩) ?_ ?_
    rotate_left
    · intro w'; go_simp; with_reducible rfl
    rotate_left
    · simp only [Act.put, List.setIfInBounds_toArray, List.set_cons_zero, List.set_cons_succ, i64_w, i32_w]; rfl
    refine last_ (i := 6) (N := none) zm19_7 rfl rfl (by kernel_rfl) (by decide) (fun K hK => ?_)
    refine skip_ (w1 := ?_) (by rfl) rfl ?_ ?_
    rotate_left
    · go_simp; rfl
    refine hK.out _ _ ?_
    clear hK K
    refine done_ (by kernel_rfl) ?_
    obtain ⟨w196, hq_⟩ : ∃ W_, W_ = (w194.setCell ⟨go186, 2, none⟩ (.int .i64 t322)) := ⟨_, rfl⟩
    rw [← hq_]
    have n0_ : Aside0 (Kd.R k43 43 w196 w.heap.size (fun _ => True) (.slice (some ⟨go186, 0, none⟩) x254002_1.length co192) y326) := ⟨by rw [hq_]; exact HQ195.out⟩
    have n1_ : Aside0 (w196.heap[gb252]? = some (.cells #[.string (⟨#[]⟩ : ByteArray), .int .i64 0, .slice none 0 0] 25 (0, 0))) := ⟨by rw [hq_]; refine blk_far ?_ (by have h_ := Kd.R_ne HO_254002.out BK252.out (by decide); intro e_; exact h_ (by rw [e_]; rfl)) _; exact BK252.out⟩
    have n2_ : Aside0 (w196.heap[gb253]? = some (.cells #[.string x254000_1, .int .i64 x254001_1, .slice (some ⟨go186, 0, none⟩) x254002_1.length co192] 25 (0, 0))) := ⟨by rw [hq_]; refine blk_far ?_ (by have h_ := Kd.R_ne HO_254002.out BK253.out (by decide); intro e_; exact h_ (by rw [e_]; rfl)) _; exact BK253.out⟩
    have n3_ : Aside0 (IsS60 w0 w196 g s0_0 t323 t324 t325) := ⟨by rw [hq_]; repeat ((with_reducible first | exact HI0.out | refine IsS60.far ?_ HN0_go186.out _))⟩
    have n4_ : Aside0 (KeepBut w w196 g none) := ⟨by rw [hq_]; repeat ((with_reducible first | exact HK.out | refine keep_far ?_ GB186.out _))⟩
    have n5_ : Aside0 (Below w0.heap.size w0 w196) := ⟨by rw [hq_]; repeat ((with_reducible first | exact HB.out | refine below_set ?_ (Nat.le_trans HL.out GB186.out)))⟩
    (try clear HO_254002)
    (try clear BK252)
    (try clear BK253)
    (try clear HI0)
    (try clear HK)
    (try clear HB)
    clear hq_
    have HO_254002 := n0_
    have BK252 := n1_
    have BK253 := n2_
    have HI0 := n3_
    have HK := n4_
    have HB := n5_
    clear n0_ n1_ n2_ n3_ n4_ n5_
    obtain ⟨z0, z1, z2, z3, z4, z5⟩ := bz3 BK253.out
    have hnb198 := NB252_0.out
    have hnc198 := NB0_252.out
    obtain ⟨z0, z1, z2, z3, z4, z5⟩ := bz3 BK252.out
    try go_wp2
    refine bodyPost_ret (results_cell_row rfl _ _ gb252 25 #[.string x254000_1, .int .i64 x254001_1, .slice (some ⟨go186, 0, none⟩) x254002_1.length co192] (0, 0) _ rfl zb27_7 Tryd.underlying25 rfl (by kernel_rfl)) rfl ?_
    exact ⟨_, by rfl, by exact Kd.R_mono (rfa (rfa (rfa (Kd.R_types HO_254002.out BK252.out (by decide)) (fun _ h => h.2)) (fun _ h => h.2)) (fun _ h => h.2)) (fun _ hk => trivial), by repeat ((with_reducible first | exact HI0.out | refine IsS60.far ?_ NB0_252.out _)), by repeat ((with_reducible first | exact HB.out | refine below_set ?_ GE252.out)), by repeat ((with_reducible first | exact HK.out | refine keep_far ?_ GW252.out _))⟩
   rw [if_pos c10] at H
   have c10b0 : decide (0 < x4_1) = true := decide_eq_true c10
   clear c10
   replace H := Option.bind_eq_some_iff.mp H
   obtain ⟨⟨t259, t260, t261, t262⟩, A110, H⟩ := H
   (try dsimp -simprocs only at H)
   have A11 := Aside0.mk A110
   clear A110
   by_cases c12 : t259 = 0
   ·
    rw [if_pos c12] at H
    have c12b0 : (t259 == 0) = true := beq_iff_eq.mpr c12
    have c12b1 : (t259 != 0) = false := bne_eq_false_iff_eq.mpr c12
    clear c12
    replace H := Option.bind_eq_some_iff.mp H
    obtain ⟨⟨t263, t264, t265, t266⟩, A130, H⟩ := H
    (try dsimp -simprocs only at H)
    have A13 := Aside0.mk A130
    clear A130
    replace H := Option.bind_eq_some_iff.mp H
    obtain ⟨⟨t267, t268, t269, t272, t273⟩, A140, H⟩ := H
    (try dsimp -simprocs only at H)
    have A14 := Aside0.mk A140
    clear A140
    try go_wp2_with (first | ((with_reducible refine gate_dst (N := 5) rfl ?_); refine box_event ?hg (N := 5) ?hd (cs := #[.string (⟨#[]⟩ : ByteArray), .int .i64 0, .slice none 0 0, .int .i64 0, .int .i64 0]) (t := 29) ?hr ?_; (case hd => rfl); (case hg => rfl); (case hr => (go_simp; done)); intro gb258 hg w16 hbox hb; replace HO_254002 := Aside0.mk (Kd.R_below zb8_7 hb); replace HB := Aside0.mk (below_step zb11_7 hb); have BK258 := Aside0.mk (hbox); have GW258 := Aside0.mk ((zb12_7 : w.heap.size ≤ gb258)); have GE258 := Aside0.mk ((Nat.le_trans HW0.out (zb12_7 : w.heap.size ≤ gb258) : w0.heap.size ≤ gb258)); replace HK := Aside0.mk (KeepBut.trans zb6_7 (KeepBut.of_below hb g none) (.inl rfl)); have NB252_258 := Aside0.mk ((zb3_7 : gb252 ≠ gb258)); have NB258_252 := Aside0.mk ((zb4_7 : gb258 ≠ gb252)); replace BK252 := bkb BK252 hb; have NB253_258 := Aside0.mk ((zb13_7 : gb253 ≠ gb258)); have NB258_253 := Aside0.mk ((zb14_7 : gb258 ≠ gb253)); replace BK253 := bkb BK253 hb; have NB0_258 := Aside0.mk ((zb15_7 : g ≠ gb258)); have NB258_0 := Aside0.mk ((zb16_7 : gb258 ≠ g)); replace HI0 := Aside0.mk (IsS60.below zb10_7 hb); clear hb hbox hg; have hnb17 := NB258_252.out; have hnc17 := NB252_258.out; have hnb18 := NB258_253.out; have hnc18 := NB253_258.out; have hnb19 := NB258_0.out; have hnc19 := NB0_258.out; obtain ⟨z0, z1, z2, z3, z4, z5, z6, z7, z8, z9⟩ := bz5 BK258.out) | ((with_reducible refine gate_callee (f := 25) rfl ?_); refine goesL_ (some 21) rfl rfl Tryd.func25 (by kernel_rfl) rfl #[.pointer (some ⟨g, 0, none⟩), .int .i64 4] rfl zb5_7 ?_; (with_reducible refine (spec_l01Src_n.calls g s0_0 x1001_1 x1002_1 x1003_1 4 t259 t260 t261 t262 w0 _ ?side1 ?side2 A11.out).mono ?_); (case side1 => repeat ((with_reducible first | exact HI0.out | refine IsS60.far ?_ NB0_258.out _))); (case side2 => repeat ((with_reducible first | exact HB.out | refine below_set ?_ GE258.out))); rintro e w21 ⟨rfl, hi, hb, hk⟩; refine ⟨_, rfl, ?_⟩; replace HO_254002 := Aside0.mk (Kd.R_mono (Kd.R_keep (IsS60.apart (show IsS60 w0 _ g s0_0 x1001_1 x1002_1 x1003_1 from by repeat ((with_reducible first | exact HI0.out | refine IsS60.far ?_ NB0_258.out _))) zb17_7 (by decide)) hk (fun _ h => h.2)) (fun _ h => h.1)); replace BK252 := Aside0.mk (KeepBut.blk hk (g' := gb252) (o := .cells #[.string (⟨#[]⟩ : ByteArray), .int .i64 0, .slice none 0 0] 25 (0, 0)) zb18_7 NB252_0.out (by simp)); replace BK253 := Aside0.mk (KeepBut.blk hk (g' := gb253) (o := .cells #[.string x254000_1, .int .i64 x254001_1, u254002] 25 (0, 0)) zb19_7 NB253_0.out (by simp)); replace BK258 := Aside0.mk (KeepBut.blk hk (g' := gb258) (o := .cells #[.string (⟨#[]⟩ : ByteArray), .int .i64 0, .slice none 0 0, .int .i64 0, .int .i64 0] 29 (0, 0)) zb20_7 NB258_0.out (by simp)); replace HK := Aside0.mk (KeepBut.trans zb21_7 hk (.inl rfl)); replace HB := Aside0.mk (hb); replace HI0 := Aside0.mk (hi); (try clear hb); (try clear hk); (try clear hi)))
    replace HO_254002 := Aside0.mk (Kd.R_drew HO_254002.out)
    replace BK252 := Aside0.mk (blk_drew BK252.out)
    replace BK253 := Aside0.mk (blk_drew BK253.out)
    replace BK258 := Aside0.mk (blk_drew BK258.out)
    replace HI0 := Aside0.mk (IsS60.drew HI0.out)
    replace HK := Aside0.mk (keep_drew HK.out)
    replace HB := Aside0.mk (below_drew1 HB.out)
    refine start_ (n := 6) (S := fun w' => w'.cell? ⟨gb253, 0, none⟩ = some (.string x254000_1) ∧ w'.cell? ⟨gb253, 1, none⟩ = some (.int .i64 x254001_1) ∧ w'.cell? ⟨gb253, 2, none⟩ = some (u254002)) (ds := []) zm0_7 (by kernel_rfl) rfl rfl ⟨(blk_cell BK253.out 0).trans rfl, (blk_cell BK253.out 1).trans rfl, (blk_cell BK253.out 2).trans rfl⟩ (fun hHeld => ?_)
    generalize w21.drew = w22 at HO_254002 BK252 BK253 BK258 HI0 HK HB hHeld ⊢
    refine pure_ (i := 1) (N := some 30) (v := ?_) (a' := ?_) zm1_7 rfl rfl (by kernel_rfl) (fun _ _ _ h => h) (Or.inl ⟨by rfl, ?_⟩) ?_ ?_
    rotate_left
    · intro w'; go_simp; with_reducible rfl
    rotate_left
    · simp only [Act.put, List.setIfInBounds_toArray, List.set_cons_zero, List.set_cons_succ, i64_w, i32_w]; rfl
    refine take_ (i := 0) (N := some 29) (v := ?_) (a' := ?_) zm2_7 rfl rfl (by kernel_rfl) (fun _ _ _ h => h) (Or.inl ⟨by rfl, ?_⟩) hHeld ?_ ?_
    rotate_left
    · rintro w' ⟨s0, s1, s2⟩; go_simp; with_reducible rfl
    rotate_left
    · simp only [Act.put, List.setIfInBounds_toArray, List.set_cons_zero, List.set_cons_succ, i64_w, i32_w]; rfl
    refine one_ (i := 2) (N := some 31) #[true, true, true, false, false, false] rfl rfl (by kernel_rfl) (by decide) (fun K hK => ?_)
    refine goes_ Tryd.func25 (by kernel_rfl) rfl #[.pointer (some ⟨g, 0, none⟩), .int .i64 4] (by rfl) rfl rfl zb5_7 ?_
    with_reducible refine (spec_l01Src_n.calls g s0_0 t260 t261 t262 4 t263 t264 t265 t266 w0 _ ?side1 ?side2 A13.out).mono ?_
    (case side1 => repeat ((with_reducible (exact HI0.out))))
    (case side2 => repeat ((with_reducible (exact HB.out))))
    rintro e w23 ⟨rfl, hi, hb, hk⟩
    refine ⟨_, rfl, ?_⟩
    replace HO_254002 := Aside0.mk (Kd.R_mono (Kd.R_keep (IsS60.apart (show IsS60 w0 _ g s0_0 t260 t261 t262 from by repeat ((with_reducible (exact HI0.out)))) zb8_7 (by decide)) hk (fun _ h => h.2)) (fun _ h => h.1))
    replace BK252 := Aside0.mk (KeepBut.blk hk (g' := gb252) (o := .cells #[.string (⟨#[]⟩ : ByteArray), .int .i64 0, .slice none 0 0] 25 (0, 0)) zb1_7 NB252_0.out (by simp))
    replace BK253 := Aside0.mk (KeepBut.blk hk (g' := gb253) (o := .cells #[.string x254000_1, .int .i64 x254001_1, u254002] 25 (0, 0)) zb9_7 NB253_0.out (by simp))
    replace BK258 := Aside0.mk (KeepBut.blk hk (g' := gb258) (o := .cells #[.string (⟨#[]⟩ : ByteArray), .int .i64 0, .slice none 0 0, .int .i64 0, .int .i64 0] 29 (0, 0)) zb22_7 NB258_0.out (by simp))
    replace HK := Aside0.mk (KeepBut.trans zb21_7 hk (.inl rfl))
    replace HB := Aside0.mk (hb)
    replace HI0 := Aside0.mk (hi)
    (try clear hb)
    (try clear hk)
    (try clear hi)
    obtain ⟨Ao24, co24, eo24⟩ := Kd.R_slice HO_254002.out
    ((subst eo24))
    refine hK.out _ _ zk0_7 (fun hHeld => ?_)
    clear hK K
    refine zn (some 31) ?_
    refine pure_ (i := 3) (N := some 32) (v := ?_) (a' := ?_) #[true, true, true, true, false, false] rfl rfl (by kernel_rfl) (fun _ _ _ h => h) (Or.inl ⟨by rfl, ?_⟩) ?_ ?_
    rotate_left
    · intro w'; go_simp; with_reducible rfl
    rotate_left
    · simp only [Act.put, List.setIfInBounds_toArray, List.set_cons_zero, List.set_cons_succ, i64_w, i32_w]; rfl
    refine one_ (i := 4) (N := some 33) #[true, true, true, true, true, false] rfl rfl (by kernel_rfl) (by decide) (fun K hK => ?_)
    refine goes_ Tryd.func12 (by kernel_rfl) rfl #[.agg #[.string x254000_1, .int .i64 x254001_1, .slice Ao24 x254002_1.length co24], .int .i64 (wrap64 (1 + t263)), .string (⟨#[107]⟩ : ByteArray)] (by rfl) rfl rfl zb5_7 ?_
    with_reducible refine (spec_DbResult.calls k1 x254000_1 x254001_1 _ _ x254002_1 (wrap64 (1 + t263)) (⟨#[107]⟩ : ByteArray) t267 t268 t269 t272 t273 _ ?side1 ?side2 A14.out).mono ?_
    (case side1 => repeat ((exact (Kd.R_reads' HO_254002.out).2.2)))
    (case side2 => exact (Kd.R_reads' HO_254002.out).2.1)
    rintro e w25 ⟨v270, rfl, ho0, hb⟩
    refine ⟨_, rfl, ?_⟩
    have HO271 := Aside0.mk (Kd.R_lower (Kd.R_new' ho0 (Kd.R_lt zb8_7)) (keep_size (w := w) (g := g) (row := none) zb21_7))
    replace HO_254002 := Aside0.mk (Kd.R_elder' zb8_7 (Kd.R_base ho0) hb)
    replace BK252 := bkb BK252 hb
    replace BK253 := bkb BK253 hb
    replace HI0 := Aside0.mk (IsS60.below zb23_7 hb)
    replace BK258 := bkb BK258 hb
    replace HK := Aside0.mk (KeepBut.trans zb21_7 (KeepBut.of_below hb g none) (.inl rfl))
    replace HB := Aside0.mk (below_step zb24_7 hb)
    (try clear hb)
    (try clear ho0)
    obtain ⟨Ao28, co28, eo28⟩ := Kd.R_slice HO271.out
    ((subst eo28))
    refine hK.out _ _ zk0_7 (fun hHeld => ?_)
    clear hK K
    refine zn (some 33) ?_
    refine one_ (i := 5) (N := none) #[true, true, true, true, true, true] rfl rfl (by kernel_rfl) (by decide) (fun K hK => ?_)
    have hs26 : w25.cell? ⟨gb258, 0, none⟩ = some (.string (⟨#[]⟩ : ByteArray)) := (blk_cell BK258.out 0).trans rfl
    have hfs26 := blk_frozen BK258.out 0
    have hns26_0 := NB252_258.out
    have hns26_1 := NB253_258.out
    have hms26_0 := NB258_252.out
    have hms26_1 := NB258_253.out
    have hs27 : w25.cell? ⟨gb258, 1, none⟩ = some (.int .i64 0) := (blk_cell BK258.out 1).trans rfl
    have hfs27 := blk_frozen BK258.out 1
    have hns27_0 := NB252_258.out
    have hns27_1 := NB253_258.out
    have hms27_0 := NB258_252.out
    have hms27_1 := NB258_253.out
    have hs29 : w25.cell? ⟨gb258, 2, none⟩ = some (.slice none 0 0) := (blk_cell BK258.out 2).trans rfl
    have hfs29 := blk_frozen BK258.out 2
    have hns29_0 := NB252_258.out
    have hns29_1 := NB253_258.out
    have hms29_0 := NB258_252.out
    have hms29_1 := NB258_253.out
    have hs30 : w25.cell? ⟨gb258, 3, none⟩ = some (.int .i64 0) := (blk_cell BK258.out 3).trans rfl
    have hfs30 := blk_frozen BK258.out 3
    have hns30_0 := NB252_258.out
    have hns30_1 := NB253_258.out
    have hms30_0 := NB258_252.out
    have hms30_1 := NB258_253.out
    have hs31 : w25.cell? ⟨gb258, 4, none⟩ = some (.int .i64 0) := (blk_cell BK258.out 4).trans rfl
    have hfs31 := blk_frozen BK258.out 4
    have hns31_0 := NB252_258.out
    have hns31_1 := NB253_258.out
    have hms31_0 := NB258_252.out
    have hms31_1 := NB258_253.out
    refine skip_ (w1 := ?_) (by rfl) rfl ?_ ?_
    rotate_left
    · go_simp; rfl
    refine hK.out _ _ zk1_7 (fun hHeld => ?_)
    clear hK K
    refine done_ (by kernel_rfl) ?_
    obtain ⟨z0, z1, z2, z3, z4, z5, z6, z7, z8, z9⟩ := bz5 BK258.out
    by_cases c15 : t273 = 0
    rotate_left
    ·
     rw [if_neg c15] at H
     have c15b0 : (t273 == 0) = false := beq_eq_false_iff_ne.mpr c15
     have c15b1 : (t273 != 0) = true := bne_iff_ne.mpr c15
     have H' := Aside0.mk H
     clear H
     (try rw [c15b0])
     (try rw [c15b1])
     try go_wp2
     go_roundg k1
     case measure => have := HK1.out; omega
     case rel => exact ⟨(wrap64 (x4_1 - 1)), (t264), (t265), (t266), (x254000_1), (x254001_1), (x254002_1), (.slice Ao24 x254002_1.length co24), zb7_7, H', ⟨by have := HK1.out; omega⟩, ⟨by exact Kd.R_mono (rfa (rfa (rfa (rfa (rfa (Kd.R_types HO_254002.out BK258.out (by decide)) (fun _ h => h.2)) (fun _ h => h.2)) (fun _ h => h.2)) (fun _ h => h.2)) (fun _ h => h.2)) (fun _ hk => trivial)⟩, ⟨by refine blk_far ?_ NB252_258.out _; refine blk_far ?_ NB252_258.out _; refine blk_far ?_ NB252_258.out _; refine blk_far ?_ NB252_258.out _; refine blk_far ?_ NB252_258.out _; exact BK252.out⟩, ⟨by refine blk_far ?_ NB253_258.out _; refine blk_far ?_ NB253_258.out _; refine blk_far ?_ NB253_258.out _; refine blk_far ?_ NB253_258.out _; refine blk_far ?_ NB253_258.out _; exact BK253.out⟩, ⟨by repeat ((with_reducible first | exact HI0.out | refine IsS60.far ?_ NB0_258.out _))⟩, ⟨by repeat ((with_reducible first | exact HK.out | refine keep_far ?_ GW258.out _))⟩, ⟨by repeat ((with_reducible first | exact HB.out | refine below_set ?_ GE258.out))⟩⟩
    rw [if_pos c15] at H
    have c15b0 : (t273 == 0) = true := beq_iff_eq.mpr c15
    have c15b1 : (t273 != 0) = false := bne_eq_false_iff_eq.mpr c15
    clear c15
    have H' := Aside0.mk H
    clear H
    (try rw [c15b0])
    (try rw [c15b1])
    have hnb33 := NB253_252.out
    have hnc33 := NB252_253.out
    have hnb34 := NB253_0.out
    have hnc34 := NB0_253.out
    obtain ⟨z0, z1, z2, z3, z4, z5⟩ := bz3 BK253.out
    try go_wp2
    go_roundg k1
    case measure => have := HK1.out; omega
    case rel => exact ⟨(wrap64 (x4_1 - 1)), (t264), (t265), (t266), (t267), (t268), (t269), (.slice Ao28 t269.length co28), zb7_7, H', ⟨by have := HK1.out; omega⟩, ⟨by exact Kd.R_mono (rfa (rfa (rfa (rfa (rfa (rfa (rfa (rfa (Kd.R_types (Kd.R_types HO271.out BK258.out (by decide)) BK253.out (by decide)) (fun _ hk => hk.1.2)) (fun _ hk => hk.1.2)) (fun _ hk => hk.1.2)) (fun _ hk => hk.1.2)) (fun _ hk => hk.1.2)) (fun _ h => h.2)) (fun _ h => h.2)) (fun _ h => h.2)) (fun _ hk => trivial)⟩, ⟨by refine blk_far ?_ NB252_253.out _; refine blk_far ?_ NB252_253.out _; refine blk_far ?_ NB252_253.out _; refine blk_far ?_ NB252_258.out _; refine blk_far ?_ NB252_258.out _; refine blk_far ?_ NB252_258.out _; refine blk_far ?_ NB252_258.out _; refine blk_far ?_ NB252_258.out _; exact BK252.out⟩, ⟨by apply bp3; refine blk_far ?_ NB253_258.out _; refine blk_far ?_ NB253_258.out _; refine blk_far ?_ NB253_258.out _; refine blk_far ?_ NB253_258.out _; refine blk_far ?_ NB253_258.out _; exact BK253.out⟩, ⟨by repeat ((with_reducible first | exact HI0.out | refine IsS60.far ?_ NB0_253.out _ | refine IsS60.far ?_ NB0_258.out _))⟩, ⟨by repeat ((with_reducible first | exact HK.out | refine keep_far ?_ GW253.out _ | refine keep_far ?_ GW258.out _))⟩, ⟨by repeat ((with_reducible first | exact HB.out | refine below_set ?_ GE253.out | refine below_set ?_ GE258.out))⟩⟩
   rw [if_neg c12] at H
   have c12b0 : (t259 == 0) = false := beq_eq_false_iff_ne.mpr c12
   have c12b1 : (t259 != 0) = true := bne_iff_ne.mpr c12
   by_cases c53 : t259 = 1
   ·
    rw [if_pos c53] at H
    have c53b0 : (t259 == 1) = true := beq_iff_eq.mpr c53
    have c53b1 : (t259 != 1) = false := bne_eq_false_iff_eq.mpr c53
    clear c53
    replace H := Option.bind_eq_some_iff.mp H
    obtain ⟨⟨t274, t275, t276, t277⟩, A540, H⟩ := H
    (try dsimp -simprocs only at H)
    have A54 := Aside0.mk A540
    clear A540
    replace H := Option.bind_eq_some_iff.mp H
    obtain ⟨⟨t278, t279, t280, t281⟩, A550, H⟩ := H
    (try dsimp -simprocs only at H)
    have A55 := Aside0.mk A550
    clear A550
    replace H := Option.bind_eq_some_iff.mp H
    obtain ⟨⟨t282, t283, t284, t287, t288⟩, A560, H⟩ := H
    (try dsimp -simprocs only at H)
    have A56 := Aside0.mk A560
    clear A560
    try go_wp2_with (first | ((with_reducible refine gate_dst (N := 5) rfl ?_); refine box_event ?hg (N := 5) ?hd (cs := #[.string (⟨#[]⟩ : ByteArray), .int .i64 0, .slice none 0 0, .int .i64 0, .int .i64 0]) (t := 29) ?hr ?_; (case hd => rfl); (case hg => rfl); (case hr => (go_simp; done)); intro gb258 hg w58 hbox hb; replace HO_254002 := Aside0.mk (Kd.R_below zb8_7 hb); replace HB := Aside0.mk (below_step zb11_7 hb); have BK258 := Aside0.mk (hbox); have GW258 := Aside0.mk ((zb12_7 : w.heap.size ≤ gb258)); have GE258 := Aside0.mk ((Nat.le_trans HW0.out (zb12_7 : w.heap.size ≤ gb258) : w0.heap.size ≤ gb258)); replace HK := Aside0.mk (KeepBut.trans zb6_7 (KeepBut.of_below hb g none) (.inl rfl)); have NB252_258 := Aside0.mk ((zb3_7 : gb252 ≠ gb258)); have NB258_252 := Aside0.mk ((zb4_7 : gb258 ≠ gb252)); replace BK252 := bkb BK252 hb; have NB253_258 := Aside0.mk ((zb13_7 : gb253 ≠ gb258)); have NB258_253 := Aside0.mk ((zb14_7 : gb258 ≠ gb253)); replace BK253 := bkb BK253 hb; have NB0_258 := Aside0.mk ((zb15_7 : g ≠ gb258)); have NB258_0 := Aside0.mk ((zb16_7 : gb258 ≠ g)); replace HI0 := Aside0.mk (IsS60.below zb10_7 hb); clear hb hbox hg; have hnb59 := NB258_252.out; have hnc59 := NB252_258.out; have hnb60 := NB258_253.out; have hnc60 := NB253_258.out; have hnb61 := NB258_0.out; have hnc61 := NB0_258.out; obtain ⟨z0, z1, z2, z3, z4, z5, z6, z7, z8, z9⟩ := bz5 BK258.out) | ((with_reducible refine gate_callee (f := 25) rfl ?_); refine goesL_ (some 21) rfl rfl Tryd.func25 (by kernel_rfl) rfl #[.pointer (some ⟨g, 0, none⟩), .int .i64 4] rfl zb5_7 ?_; (with_reducible refine (spec_l01Src_n.calls g s0_0 x1001_1 x1002_1 x1003_1 4 t259 t260 t261 t262 w0 _ ?side1 ?side2 A11.out).mono ?_); (case side1 => repeat ((with_reducible first | exact HI0.out | refine IsS60.far ?_ NB0_258.out _))); (case side2 => repeat ((with_reducible first | exact HB.out | refine below_set ?_ GE258.out))); rintro e w63 ⟨rfl, hi, hb, hk⟩; refine ⟨_, rfl, ?_⟩; replace HO_254002 := Aside0.mk (Kd.R_mono (Kd.R_keep (IsS60.apart (show IsS60 w0 _ g s0_0 x1001_1 x1002_1 x1003_1 from by repeat ((with_reducible first | exact HI0.out | refine IsS60.far ?_ NB0_258.out _))) zb17_7 (by decide)) hk (fun _ h => h.2)) (fun _ h => h.1)); replace BK252 := Aside0.mk (KeepBut.blk hk (g' := gb252) (o := .cells #[.string (⟨#[]⟩ : ByteArray), .int .i64 0, .slice none 0 0] 25 (0, 0)) zb18_7 NB252_0.out (by simp)); replace BK253 := Aside0.mk (KeepBut.blk hk (g' := gb253) (o := .cells #[.string x254000_1, .int .i64 x254001_1, u254002] 25 (0, 0)) zb19_7 NB253_0.out (by simp)); replace BK258 := Aside0.mk (KeepBut.blk hk (g' := gb258) (o := .cells #[.string (⟨#[]⟩ : ByteArray), .int .i64 0, .slice none 0 0, .int .i64 0, .int .i64 0] 29 (0, 0)) zb20_7 NB258_0.out (by simp)); replace HK := Aside0.mk (KeepBut.trans zb21_7 hk (.inl rfl)); replace HB := Aside0.mk (hb); replace HI0 := Aside0.mk (hi); (try clear hb); (try clear hk); (try clear hi)))
    replace HO_254002 := Aside0.mk (Kd.R_drew HO_254002.out)
    replace BK252 := Aside0.mk (blk_drew BK252.out)
    replace BK253 := Aside0.mk (blk_drew BK253.out)
    replace BK258 := Aside0.mk (blk_drew BK258.out)
    replace HI0 := Aside0.mk (IsS60.drew HI0.out)
    replace HK := Aside0.mk (keep_drew HK.out)
    replace HB := Aside0.mk (below_drew1 HB.out)
    refine start_ (n := 8) (S := fun w' => w'.cell? ⟨gb253, 0, none⟩ = some (.string x254000_1) ∧ w'.cell? ⟨gb253, 1, none⟩ = some (.int .i64 x254001_1) ∧ w'.cell? ⟨gb253, 2, none⟩ = some (u254002)) (ds := []) zm3_7 (by kernel_rfl) rfl rfl ⟨(blk_cell BK253.out 0).trans rfl, (blk_cell BK253.out 1).trans rfl, (blk_cell BK253.out 2).trans rfl⟩ (fun hHeld => ?_); refine with_tabW spec_l01Src_l06Dialback.tab11 spec_l01Src_l06Dialback.bits11 (fun HT_ HW_ => ?_)
    generalize w63.drew = w64 at HO_254002 BK252 BK253 BK258 HI0 HK HB hHeld ⊢
    refine zp 1 (some 37) zm4_7 HT_ ?_
    refine zp 4 (some 40) zm5_7 HT_ ?_
    refine zt 0 (some 36) zm6_7 HT_ HW_ hHeld ?_
    refine one_ (i := 2) (N := some 38) zm7_7 rfl rfl (one_of HT_.out (by kernel_rfl)) (by decide) (fun K hK => ?_)
    refine goes_ Tryd.func25 (by kernel_rfl) rfl #[.pointer (some ⟨g, 0, none⟩), .int .i64 4] (by rfl) rfl rfl zb5_7 ?_
    with_reducible refine (spec_l01Src_n.calls g s0_0 t260 t261 t262 4 t274 t275 t276 t277 w0 _ ?side1 ?side2 A54.out).mono ?_
    (case side1 => repeat ((with_reducible (exact HI0.out))))
    (case side2 => repeat ((with_reducible (exact HB.out))))
    rintro e w65 ⟨rfl, hi, hb, hk⟩
    refine ⟨_, rfl, ?_⟩
    replace HO_254002 := Aside0.mk (Kd.R_mono (Kd.R_keep (IsS60.apart (show IsS60 w0 _ g s0_0 t260 t261 t262 from by repeat ((with_reducible (exact HI0.out)))) zb8_7 (by decide)) hk (fun _ h => h.2)) (fun _ h => h.1))
    replace BK252 := Aside0.mk (KeepBut.blk hk (g' := gb252) (o := .cells #[.string (⟨#[]⟩ : ByteArray), .int .i64 0, .slice none 0 0] 25 (0, 0)) zb1_7 NB252_0.out (by simp))
    replace BK253 := Aside0.mk (KeepBut.blk hk (g' := gb253) (o := .cells #[.string x254000_1, .int .i64 x254001_1, u254002] 25 (0, 0)) zb9_7 NB253_0.out (by simp))
    replace BK258 := Aside0.mk (KeepBut.blk hk (g' := gb258) (o := .cells #[.string (⟨#[]⟩ : ByteArray), .int .i64 0, .slice none 0 0, .int .i64 0, .int .i64 0] 29 (0, 0)) zb22_7 NB258_0.out (by simp))
    replace HK := Aside0.mk (KeepBut.trans zb21_7 hk (.inl rfl))
    replace HB := Aside0.mk (hb)
    replace HI0 := Aside0.mk (hi)
    (try clear hb)
    (try clear hk)
    (try clear hi)
    refine hK.out _ _ zk0_7 (fun hHeld => ?_)
    clear hK K
    refine zn (some 38) ?_
    refine zp 3 (some 39) zm8_7 HT_ ?_
    refine one_ (i := 5) (N := some 41) zm9_7 rfl rfl (one_of HT_.out (by kernel_rfl)) (by decide) (fun K hK => ?_)
    refine goes_ Tryd.func28 (by kernel_rfl) rfl #[.pointer (some ⟨g, 0, none⟩), .int .i64 2] (by rfl) rfl rfl zb5_7 ?_
    with_reducible refine (spec_l01Src_one.calls g s0_0 t275 t276 t277 2 t278 t279 t280 t281 w0 _ ?side1 ?side2 A55.out).mono ?_
    (case side1 => repeat ((with_reducible (exact HI0.out))))
    (case side2 => repeat ((with_reducible (exact HB.out))))
    rintro e w66 ⟨rfl, hi, hb, hk⟩
    refine ⟨_, rfl, ?_⟩
    replace HO_254002 := Aside0.mk (Kd.R_mono (Kd.R_keep (IsS60.apart (show IsS60 w0 _ g s0_0 t275 t276 t277 from by repeat ((with_reducible (exact HI0.out)))) zb8_7 (by decide)) hk (fun _ h => h.2)) (fun _ h => h.1))
    replace BK252 := Aside0.mk (KeepBut.blk hk (g' := gb252) (o := .cells #[.string (⟨#[]⟩ : ByteArray), .int .i64 0, .slice none 0 0] 25 (0, 0)) zb1_7 NB252_0.out (by simp))
    replace BK253 := Aside0.mk (KeepBut.blk hk (g' := gb253) (o := .cells #[.string x254000_1, .int .i64 x254001_1, u254002] 25 (0, 0)) zb9_7 NB253_0.out (by simp))
    replace BK258 := Aside0.mk (KeepBut.blk hk (g' := gb258) (o := .cells #[.string (⟨#[]⟩ : ByteArray), .int .i64 0, .slice none 0 0, .int .i64 0, .int .i64 0] 29 (0, 0)) zb22_7 NB258_0.out (by simp))
    replace HK := Aside0.mk (KeepBut.trans zb21_7 hk (.inl rfl))
    replace HB := Aside0.mk (hb)
    replace HI0 := Aside0.mk (hi)
    (try clear hb)
    (try clear hk)
    (try clear hi)
    obtain ⟨Ao67, co67, eo67⟩ := Kd.R_slice HO_254002.out
    ((subst eo67))
    refine hK.out _ _ zk0_7 (fun hHeld => ?_)
    clear hK K
    refine zn (some 41) ?_
    refine one_ (i := 6) (N := some 42) zm10_7 rfl rfl (one_of HT_.out (by kernel_rfl)) (by decide) (fun K hK => ?_)
    refine goes_ Tryd.func13 (by kernel_rfl) rfl #[.agg #[.string x254000_1, .int .i64 x254001_1, .slice Ao67 x254002_1.length co67], .int .i64 (wrap64 (1 + t274)), .bool t278] (by rfl) rfl rfl zb5_7 ?_
    with_reducible refine (spec_DbVerified.calls k1 x254000_1 x254001_1 _ _ x254002_1 (wrap64 (1 + t274)) t278 t282 t283 t284 t287 t288 _ ?side1 ?side2 A56.out).mono ?_
    (case side1 => repeat ((exact (Kd.R_reads' HO_254002.out).2.2)))
    (case side2 => exact (Kd.R_reads' HO_254002.out).2.1)
    rintro e w68 ⟨v285, rfl, ho0, hb⟩
    refine ⟨_, rfl, ?_⟩
    have HO286 := Aside0.mk (Kd.R_lower (Kd.R_new' ho0 (Kd.R_lt zb8_7)) (keep_size (w := w) (g := g) (row := none) zb21_7))
    replace HO_254002 := Aside0.mk (Kd.R_elder' zb8_7 (Kd.R_base ho0) hb)
    replace BK252 := bkb BK252 hb
    replace BK253 := bkb BK253 hb
    replace HI0 := Aside0.mk (IsS60.below zb23_7 hb)
    replace BK258 := bkb BK258 hb
    replace HK := Aside0.mk (KeepBut.trans zb21_7 (KeepBut.of_below hb g none) (.inl rfl))
    replace HB := Aside0.mk (below_step zb24_7 hb)
    (try clear hb)
    (try clear ho0)
    obtain ⟨Ao71, co71, eo71⟩ := Kd.R_slice HO286.out
    ((subst eo71))
    refine hK.out _ _ zk0_7 (fun hHeld => ?_)
    clear hK K
    refine zn (some 42) ?_
    refine one_ (i := 7) (N := none) zm11_7 rfl rfl (one_of HT_.out (by kernel_rfl)) (by decide) (fun K hK => ?_)
    have hs69 : w68.cell? ⟨gb258, 0, none⟩ = some (.string (⟨#[]⟩ : ByteArray)) := (blk_cell BK258.out 0).trans rfl
    have hfs69 := blk_frozen BK258.out 0
    have hns69_0 := NB252_258.out
    have hns69_1 := NB253_258.out
    have hms69_0 := NB258_252.out
    have hms69_1 := NB258_253.out
    have hs70 : w68.cell? ⟨gb258, 1, none⟩ = some (.int .i64 0) := (blk_cell BK258.out 1).trans rfl
    have hfs70 := blk_frozen BK258.out 1
    have hns70_0 := NB252_258.out
    have hns70_1 := NB253_258.out
    have hms70_0 := NB258_252.out
    have hms70_1 := NB258_253.out
    have hs72 : w68.cell? ⟨gb258, 2, none⟩ = some (.slice none 0 0) := (blk_cell BK258.out 2).trans rfl
    have hfs72 := blk_frozen BK258.out 2
    have hns72_0 := NB252_258.out
    have hns72_1 := NB253_258.out
    have hms72_0 := NB258_252.out
    have hms72_1 := NB258_253.out
    have hs73 : w68.cell? ⟨gb258, 3, none⟩ = some (.int .i64 0) := (blk_cell BK258.out 3).trans rfl
    have hfs73 := blk_frozen BK258.out 3
    have hns73_0 := NB252_258.out
    have hns73_1 := NB253_258.out
    have hms73_0 := NB258_252.out
    have hms73_1 := NB258_253.out
    have hs74 : w68.cell? ⟨gb258, 4, none⟩ = some (.int .i64 0) := (blk_cell BK258.out 4).trans rfl
    have hfs74 := blk_frozen BK258.out 4
    have hns74_0 := NB252_258.out
    have hns74_1 := NB253_258.out
    have hms74_0 := NB258_252.out
    have hms74_1 := NB258_253.out
    refine skip_ (w1 := ?_) (by rfl) rfl ?_ ?_
    rotate_left
    · go_simp; rfl
    refine hK.out _ _ zk1_7 (fun hHeld => ?_)
    clear hK K
    refine done_ (done_of HT_.out (by kernel_rfl)) ?_
    obtain ⟨z0, z1, z2, z3, z4, z5, z6, z7, z8, z9⟩ := bz5 BK258.out
    by_cases c57 : t288 = 0
    rotate_left
    ·
     rw [if_neg c57] at H
     have c57b0 : (t288 == 0) = false := beq_eq_false_iff_ne.mpr c57
     have c57b1 : (t288 != 0) = true := bne_iff_ne.mpr c57
     have H' := Aside0.mk H
     clear H
     (try rw [c57b0])
     (try rw [c57b1])
     try go_wp2
     go_roundg k1
     case measure => have := HK1.out; omega
     case rel => exact ⟨(wrap64 (x4_1 - 1)), (t279), (t280), (t281), (x254000_1), (x254001_1), (x254002_1), (.slice Ao67 x254002_1.length co67), zb7_7, H', ⟨by have := HK1.out; omega⟩, ⟨by exact Kd.R_mono (rfa (rfa (rfa (rfa (rfa (Kd.R_types HO_254002.out BK258.out (by decide)) (fun _ h => h.2)) (fun _ h => h.2)) (fun _ h => h.2)) (fun _ h => h.2)) (fun _ h => h.2)) (fun _ hk => trivial)⟩, ⟨by refine blk_far ?_ NB252_258.out _; refine blk_far ?_ NB252_258.out _; refine blk_far ?_ NB252_258.out _; refine blk_far ?_ NB252_258.out _; refine blk_far ?_ NB252_258.out _; exact BK252.out⟩, ⟨by refine blk_far ?_ NB253_258.out _; refine blk_far ?_ NB253_258.out _; refine blk_far ?_ NB253_258.out _; refine blk_far ?_ NB253_258.out _; refine blk_far ?_ NB253_258.out _; exact BK253.out⟩, ⟨by repeat ((with_reducible first | exact HI0.out | refine IsS60.far ?_ NB0_258.out _))⟩, ⟨by repeat ((with_reducible first | exact HK.out | refine keep_far ?_ GW258.out _))⟩, ⟨by repeat ((with_reducible first | exact HB.out | refine below_set ?_ GE258.out))⟩⟩
    rw [if_pos c57] at H
    have c57b0 : (t288 == 0) = true := beq_iff_eq.mpr c57
    have c57b1 : (t288 != 0) = false := bne_eq_false_iff_eq.mpr c57
    clear c57
    have H' := Aside0.mk H
    clear H
    (try rw [c57b0])
    (try rw [c57b1])
    have hnb76 := NB253_252.out
    have hnc76 := NB252_253.out
    have hnb77 := NB253_0.out
    have hnc77 := NB0_253.out
    obtain ⟨z0, z1, z2, z3, z4, z5⟩ := bz3 BK253.out
    try go_wp2
    go_roundg k1
    case measure => have := HK1.out; omega
    case rel => exact ⟨(wrap64 (x4_1 - 1)), (t279), (t280), (t281), (t282), (t283), (t284), (.slice Ao71 t284.length co71), zb7_7, H', ⟨by have := HK1.out; omega⟩, ⟨by exact Kd.R_mono (rfa (rfa (rfa (rfa (rfa (rfa (rfa (rfa (Kd.R_types (Kd.R_types HO286.out BK258.out (by decide)) BK253.out (by decide)) (fun _ hk => hk.1.2)) (fun _ hk => hk.1.2)) (fun _ hk => hk.1.2)) (fun _ hk => hk.1.2)) (fun _ hk => hk.1.2)) (fun _ h => h.2)) (fun _ h => h.2)) (fun _ h => h.2)) (fun _ hk => trivial)⟩, ⟨by refine blk_far ?_ NB252_253.out _; refine blk_far ?_ NB252_253.out _; refine blk_far ?_ NB252_253.out _; refine blk_far ?_ NB252_258.out _; refine blk_far ?_ NB252_258.out _; refine blk_far ?_ NB252_258.out _; refine blk_far ?_ NB252_258.out _; refine blk_far ?_ NB252_258.out _; exact BK252.out⟩, ⟨by apply bp3; refine blk_far ?_ NB253_258.out _; refine blk_far ?_ NB253_258.out _; refine blk_far ?_ NB253_258.out _; refine blk_far ?_ NB253_258.out _; refine blk_far ?_ NB253_258.out _; exact BK253.out⟩, ⟨by repeat ((with_reducible first | exact HI0.out | refine IsS60.far ?_ NB0_253.out _ | refine IsS60.far ?_ NB0_258.out _))⟩, ⟨by repeat ((with_reducible first | exact HK.out | refine keep_far ?_ GW253.out _ | refine keep_far ?_ GW258.out _))⟩, ⟨by repeat ((with_reducible first | exact HB.out | refine below_set ?_ GE253.out | refine below_set ?_ GE258.out))⟩⟩
   rw [if_neg c53] at H
   have c53b0 : (t259 == 1) = false := beq_eq_false_iff_ne.mpr c53
   have c53b1 : (t259 != 1) = true := bne_iff_ne.mpr c53
   obtain ⟨y289, hy289⟩ : ∃ y_ : List ByteArray, y_ = (([(⟨#[98]⟩ : ByteArray), (⟨#[99, 46, 100]⟩ : ByteArray)] : List ByteArray)) := ⟨_, rfl⟩
   replace H : ((spec_l01Src_pick.f s0_0 t260 t261 t262 y289).bind fun bt292 => ((spec_DbOpen.f k1 x254000_1 x254001_1 x254002_1 bt292.1).bind fun bt296 => (if bt296.2.2.2.2 = 0 then (spec_l01Src_l06Dialback.l0 k1 (wrap64 (x4_1 - 1)) s0_0 bt292.2.1 bt292.2.2.1 bt292.2.2.2 bt296.1 bt296.2.1 bt296.2.2.1) else (spec_l01Src_l06Dialback.l0 k1 (wrap64 (x4_1 - 1)) s0_0 bt292.2.1 bt292.2.2.1 bt292.2.2.2 x254000_1 x254001_1 x254002_1)))) = some (r1, r2, r3, r4, r5, r6) := by (rw [hy289]; with_reducible exact H)
   have Ny289 := Aside0.mk hy289
   clear hy289
   replace H := Option.bind_eq_some_iff.mp H
   obtain ⟨⟨t292, t293, t294, t295⟩, A970, H⟩ := H
   (try dsimp -simprocs only at H)
   have A97 := Aside0.mk A970
   clear A970
   replace H := Option.bind_eq_some_iff.mp H
   obtain ⟨⟨t296, t297, t298, t301, t302⟩, A980, H⟩ := H
   (try dsimp -simprocs only at H)
   have A98 := Aside0.mk A980
   clear A980
   try go_wp2_with (first | ((with_reducible refine gate_dst (N := 5) rfl ?_); refine box_event ?hg (N := 5) ?hd (cs := #[.string (⟨#[]⟩ : ByteArray), .int .i64 0, .slice none 0 0, .int .i64 0, .int .i64 0]) (t := 29) ?hr ?_; (case hd => rfl); (case hg => rfl); (case hr => (go_simp; done)); intro gb258 hg w100 hbox hb; replace HO_254002 := Aside0.mk (Kd.R_below zb8_7 hb); replace HB := Aside0.mk (below_step zb11_7 hb); have BK258 := Aside0.mk (hbox); have GW258 := Aside0.mk ((zb12_7 : w.heap.size ≤ gb258)); have GE258 := Aside0.mk ((Nat.le_trans HW0.out (zb12_7 : w.heap.size ≤ gb258) : w0.heap.size ≤ gb258)); replace HK := Aside0.mk (KeepBut.trans zb6_7 (KeepBut.of_below hb g none) (.inl rfl)); have NB252_258 := Aside0.mk ((zb3_7 : gb252 ≠ gb258)); have NB258_252 := Aside0.mk ((zb4_7 : gb258 ≠ gb252)); replace BK252 := bkb BK252 hb; have NB253_258 := Aside0.mk ((zb13_7 : gb253 ≠ gb258)); have NB258_253 := Aside0.mk ((zb14_7 : gb258 ≠ gb253)); replace BK253 := bkb BK253 hb; have NB0_258 := Aside0.mk ((zb15_7 : g ≠ gb258)); have NB258_0 := Aside0.mk ((zb16_7 : gb258 ≠ g)); replace HI0 := Aside0.mk (IsS60.below zb10_7 hb); clear hb hbox hg; have hnb101 := NB258_252.out; have hnc101 := NB252_258.out; have hnb102 := NB258_253.out; have hnc102 := NB253_258.out; have hnb103 := NB258_0.out; have hnc103 := NB0_258.out; obtain ⟨z0, z1, z2, z3, z4, z5, z6, z7, z8, z9⟩ := bz5 BK258.out) | ((with_reducible refine gate_callee (f := 25) rfl ?_); refine goesL_ (some 21) rfl rfl Tryd.func25 (by kernel_rfl) rfl #[.pointer (some ⟨g, 0, none⟩), .int .i64 4] rfl zb5_7 ?_; (with_reducible refine (spec_l01Src_n.calls g s0_0 x1001_1 x1002_1 x1003_1 4 t259 t260 t261 t262 w0 _ ?side1 ?side2 A11.out).mono ?_); (case side1 => repeat ((with_reducible first | exact HI0.out | refine IsS60.far ?_ NB0_258.out _))); (case side2 => repeat ((with_reducible first | exact HB.out | refine below_set ?_ GE258.out))); rintro e w105 ⟨rfl, hi, hb, hk⟩; refine ⟨_, rfl, ?_⟩; replace HO_254002 := Aside0.mk (Kd.R_mono (Kd.R_keep (IsS60.apart (show IsS60 w0 _ g s0_0 x1001_1 x1002_1 x1003_1 from by repeat ((with_reducible first | exact HI0.out | refine IsS60.far ?_ NB0_258.out _))) zb17_7 (by decide)) hk (fun _ h => h.2)) (fun _ h => h.1)); replace BK252 := Aside0.mk (KeepBut.blk hk (g' := gb252) (o := .cells #[.string (⟨#[]⟩ : ByteArray), .int .i64 0, .slice none 0 0] 25 (0, 0)) zb18_7 NB252_0.out (by simp)); replace BK253 := Aside0.mk (KeepBut.blk hk (g' := gb253) (o := .cells #[.string x254000_1, .int .i64 x254001_1, u254002] 25 (0, 0)) zb19_7 NB253_0.out (by simp)); replace BK258 := Aside0.mk (KeepBut.blk hk (g' := gb258) (o := .cells #[.string (⟨#[]⟩ : ByteArray), .int .i64 0, .slice none 0 0, .int .i64 0, .int .i64 0] 29 (0, 0)) zb20_7 NB258_0.out (by simp)); replace HK := Aside0.mk (KeepBut.trans zb21_7 hk (.inl rfl)); replace HB := Aside0.mk (hb); replace HI0 := Aside0.mk (hi); (try clear hb); (try clear hk); (try clear hi)))
   replace HO_254002 := Aside0.mk (Kd.R_drew HO_254002.out)
   replace BK252 := Aside0.mk (blk_drew BK252.out)
   replace BK253 := Aside0.mk (blk_drew BK253.out)
   replace BK258 := Aside0.mk (blk_drew BK258.out)
   replace HI0 := Aside0.mk (IsS60.drew HI0.out)
   replace HK := Aside0.mk (keep_drew HK.out)
   replace HB := Aside0.mk (below_drew1 HB.out)
   refine start_ (n := 6) (S := fun w' => w'.cell? ⟨gb253, 0, none⟩ = some (.string x254000_1) ∧ w'.cell? ⟨gb253, 1, none⟩ = some (.int .i64 x254001_1) ∧ w'.cell? ⟨gb253, 2, none⟩ = some (u254002)) (ds := []) zm0_7 (by kernel_rfl) rfl rfl ⟨(blk_cell BK253.out 0).trans rfl, (blk_cell BK253.out 1).trans rfl, (blk_cell BK253.out 2).trans rfl⟩ (fun hHeld => ?_)
   generalize w105.drew = w106 at HO_254002 BK252 BK253 BK258 HI0 HK HB hHeld ⊢
   refine pure_ (i := 1) (N := some 23) (v := ?_) (a' := ?_) zm1_7 rfl rfl (by kernel_rfl) (fun _ _ _ h => h) (Or.inl ⟨by rfl, ?_⟩) ?_ ?_
   rotate_left
   · intro w'; go_simp; with_reducible rfl
   rotate_left
   · simp only [Act.put, List.setIfInBounds_toArray, List.set_cons_zero, List.set_cons_succ, i64_w, i32_w]; rfl
   refine take_ (i := 0) (N := some 22) (v := ?_) (a' := ?_) zm2_7 rfl rfl (by kernel_rfl) (fun _ _ _ h => h) (Or.inl ⟨by rfl, ?_⟩) hHeld ?_ ?_
   rotate_left
   · rintro w' ⟨s0, s1, s2⟩; go_simp; with_reducible rfl
   rotate_left
   · simp only [Act.put, List.setIfInBounds_toArray, List.set_cons_zero, List.set_cons_succ, i64_w, i32_w]; rfl
   refine one_ (i := 2) (N := some 24) #[true, true, true, false, false, false] rfl rfl (by kernel_rfl) (by decide) (fun K hK => ?_)
   refine Kd.R_lit_step Kd.string _ 9 ?hg (N := 24) ?hd (xs := ([(⟨#[98]⟩ : ByteArray), (⟨#[99, 46, 100]⟩ : ByteArray)] : List ByteArray)) (inner := [.string (⟨#[98]⟩ : ByteArray), .string (⟨#[99, 46, 100]⟩ : ByteArray)]) (ok := fun _ => True) (okp := fun _ => True) ?hr ?hp (fun _ hk => hk) trivial (Below.refl _ _) (Nat.le_refl _) (by simp) ?_; (case hd => rfl); (case hg => rfl); (case hr => (go_simp; done)); (case hp => exact (Reps.one (show Kd.M Kd.string _ _ _ (⟨#[98]⟩ : ByteArray) [.string (⟨#[98]⟩ : ByteArray)] from rfl) (Reps.one (show Kd.M Kd.string _ _ _ (⟨#[99, 46, 100]⟩ : ByteArray) [.string (⟨#[99, 46, 100]⟩ : ByteArray)] from rfl) (Reps.none _ _))))
   intro v290 w107 ho108 hb hg_ hnew_
   clear hg_ hnew_
   ((rw [← Ny289.out] at ho108))
   replace HO_254002 := Aside0.mk (Kd.R_below zb8_7 hb)
   have HO291 := Aside0.mk (Kd.R_lower ho108 (keep_size (w := w) (g := g) (row := none) zb21_7))
   replace BK252 := bkb BK252 hb
   replace BK253 := bkb BK253 hb
   replace HI0 := Aside0.mk (IsS60.below zb23_7 hb)
   replace BK258 := bkb BK258 hb
   replace HK := Aside0.mk (KeepBut.trans zb21_7 (KeepBut.of_below hb g none) (.inl rfl))
   replace HB := Aside0.mk (below_step zb24_7 hb)
   clear hb ho108
   obtain ⟨Ao109, co109, eo109⟩ := Kd.R_slice HO291.out
   ((subst eo109))
   refine hK.out _ _ zk0_7 (fun hHeld => ?_)
   clear hK K
   refine zn (some 24) ?_
   refine one_ (i := 3) (N := some 25) #[true, true, true, true, false, false] rfl rfl (by kernel_rfl) (by decide) (fun K hK => ?_)
   refine goes_ Tryd.func21 (by kernel_rfl) rfl #[.pointer (some ⟨g, 0, none⟩), .slice Ao109 y289.length co109] (by rfl) rfl rfl zb5_7 ?_
   with_reducible refine (spec_l01Src_pick.calls g s0_0 t260 t261 t262 _ _ y289 t292 t293 t294 t295 w0 _ ?side1 ?side2 ?side3 ?side4 ?side5 A97.out).mono ?_
   (case side1 => repeat ((with_reducible (exact HI0.out))))
   (case side2 => repeat ((with_reducible (exact HB.out))))
   (case side3 => repeat ((exact (Kd.R_reads' HO291.out).2.2)))
   (case side4 => exact (Kd.R_reads' HO291.out).2.1)
   (case side5 => exact far_slice (IsS60.own_ne HI0.out HO291.out (by decide)))
   rintro e w110 ⟨rfl, hi, hb, hk⟩
   refine ⟨_, rfl, ?_⟩
   replace HO_254002 := Aside0.mk (Kd.R_mono (Kd.R_keep (IsS60.apart (show IsS60 w0 _ g s0_0 t260 t261 t262 from by repeat ((with_reducible (exact HI0.out)))) zb8_7 (by decide)) hk (fun _ h => h.2)) (fun _ h => h.1))
   replace BK252 := Aside0.mk (KeepBut.blk hk (g' := gb252) (o := .cells #[.string (⟨#[]⟩ : ByteArray), .int .i64 0, .slice none 0 0] 25 (0, 0)) zb1_7 NB252_0.out (by simp))
   replace BK253 := Aside0.mk (KeepBut.blk hk (g' := gb253) (o := .cells #[.string x254000_1, .int .i64 x254001_1, u254002] 25 (0, 0)) zb9_7 NB253_0.out (by simp))
   replace BK258 := Aside0.mk (KeepBut.blk hk (g' := gb258) (o := .cells #[.string (⟨#[]⟩ : ByteArray), .int .i64 0, .slice none 0 0, .int .i64 0, .int .i64 0] 29 (0, 0)) zb22_7 NB258_0.out (by simp))
   replace HK := Aside0.mk (KeepBut.trans zb21_7 hk (.inl rfl))
   replace HB := Aside0.mk (hb)
   replace HI0 := Aside0.mk (hi)
   (try clear hb)
   (try clear hk)
   (try clear hi)
   obtain ⟨Ao111, co111, eo111⟩ := Kd.R_slice HO_254002.out
   ((subst eo111))
   refine hK.out _ _ zk0_7 (fun hHeld => ?_)
   clear hK K
   refine zn (some 25) ?_
   refine one_ (i := 4) (N := some 26) #[true, true, true, true, true, false] rfl rfl (by kernel_rfl) (by decide) (fun K hK => ?_)
   refine goes_ Tryd.func10 (by kernel_rfl) rfl #[.agg #[.string x254000_1, .int .i64 x254001_1, .slice Ao111 x254002_1.length co111], .string t292] (by rfl) rfl rfl zb5_7 ?_
   with_reducible refine (spec_DbOpen.calls k1 x254000_1 x254001_1 _ _ x254002_1 t292 t296 t297 t298 t301 t302 _ ?side1 ?side2 A98.out).mono ?_
   (case side1 => repeat ((exact (Kd.R_reads' HO_254002.out).2.2)))
   (case side2 => exact (Kd.R_reads' HO_254002.out).2.1)
   rintro e w112 ⟨v299, rfl, ho0, hb⟩
   refine ⟨_, rfl, ?_⟩
   have HO300 := Aside0.mk (Kd.R_lower (Kd.R_new' ho0 (Kd.R_lt zb8_7)) (keep_size (w := w) (g := g) (row := none) zb21_7))
   replace HO_254002 := Aside0.mk (Kd.R_elder' zb8_7 (Kd.R_base ho0) hb)
   replace BK252 := bkb BK252 hb
   replace BK253 := bkb BK253 hb
   replace HI0 := Aside0.mk (IsS60.below zb23_7 hb)
   replace BK258 := bkb BK258 hb
   replace HK := Aside0.mk (KeepBut.trans zb21_7 (KeepBut.of_below hb g none) (.inl rfl))
   replace HB := Aside0.mk (below_step zb24_7 hb)
   (try clear hb)
   (try clear ho0)
   obtain ⟨Ao115, co115, eo115⟩ := Kd.R_slice HO300.out
   ((subst eo115))
   refine hK.out _ _ zk0_7 (fun hHeld => ?_)
   clear hK K
   refine zn (some 26) ?_
   refine one_ (i := 5) (N := none) #[true, true, true, true, true, true] rfl rfl (by kernel_rfl) (by decide) (fun K hK => ?_)
   have hs113 : w112.cell? ⟨gb258, 0, none⟩ = some (.string (⟨#[]⟩ : ByteArray)) := (blk_cell BK258.out 0).trans rfl
   have hfs113 := blk_frozen BK258.out 0
   have hns113_0 := NB252_258.out
   have hns113_1 := NB253_258.out
   have hms113_0 := NB258_252.out
   have hms113_1 := NB258_253.out
   have hs114 : w112.cell? ⟨gb258, 1, none⟩ = some (.int .i64 0) := (blk_cell BK258.out 1).trans rfl
   have hfs114 := blk_frozen BK258.out 1
   have hns114_0 := NB252_258.out
   have hns114_1 := NB253_258.out
   have hms114_0 := NB258_252.out
   have hms114_1 := NB258_253.out
   have hs116 : w112.cell? ⟨gb258, 2, none⟩ = some (.slice none 0 0) := (blk_cell BK258.out 2).trans rfl
   have hfs116 := blk_frozen BK258.out 2
   have hns116_0 := NB252_258.out
   have hns116_1 := NB253_258.out
   have hms116_0 := NB258_252.out
   have hms116_1 := NB258_253.out
   have hs117 : w112.cell? ⟨gb258, 3, none⟩ = some (.int .i64 0) := (blk_cell BK258.out 3).trans rfl
   have hfs117 := blk_frozen BK258.out 3
   have hns117_0 := NB252_258.out
   have hns117_1 := NB253_258.out
   have hms117_0 := NB258_252.out
   have hms117_1 := NB258_253.out
   have hs118 : w112.cell? ⟨gb258, 4, none⟩ = some (.int .i64 0) := (blk_cell BK258.out 4).trans rfl
   have hfs118 := blk_frozen BK258.out 4
   have hns118_0 := NB252_258.out
   have hns118_1 := NB253_258.out
   have hms118_0 := NB258_252.out
   have hms118_1 := NB258_253.out
   refine skip_ (w1 := ?_) (by rfl) rfl ?_ ?_
   rotate_left
   · go_simp; rfl
   refine hK.out _ _ zk1_7 (fun hHeld => ?_)
   clear hK K
   refine done_ (by kernel_rfl) ?_
   obtain ⟨z0, z1, z2, z3, z4, z5, z6, z7, z8, z9⟩ := bz5 BK258.out
   by_cases c99 : t302 = 0
   rotate_left
   ·
    rw [if_neg c99] at H
    have c99b0 : (t302 == 0) = false := beq_eq_false_iff_ne.mpr c99
    have c99b1 : (t302 != 0) = true := bne_iff_ne.mpr c99
    have H' := Aside0.mk H
    clear H
    (try rw [c99b0])
    (try rw [c99b1])
    try go_wp2
    go_roundg k1
    case measure => have := HK1.out; omega
    case rel => exact ⟨(wrap64 (x4_1 - 1)), (t293), (t294), (t295), (x254000_1), (x254001_1), (x254002_1), (.slice Ao111 x254002_1.length co111), zb7_7, H', ⟨by have := HK1.out; omega⟩, ⟨by exact Kd.R_mono (rfa (rfa (rfa (rfa (rfa (Kd.R_types HO_254002.out BK258.out (by decide)) (fun _ h => h.2)) (fun _ h => h.2)) (fun _ h => h.2)) (fun _ h => h.2)) (fun _ h => h.2)) (fun _ hk => trivial)⟩, ⟨by refine blk_far ?_ NB252_258.out _; refine blk_far ?_ NB252_258.out _; refine blk_far ?_ NB252_258.out _; refine blk_far ?_ NB252_258.out _; refine blk_far ?_ NB252_258.out _; exact BK252.out⟩, ⟨by refine blk_far ?_ NB253_258.out _; refine blk_far ?_ NB253_258.out _; refine blk_far ?_ NB253_258.out _; refine blk_far ?_ NB253_258.out _; refine blk_far ?_ NB253_258.out _; exact BK253.out⟩, ⟨by repeat ((with_reducible first | exact HI0.out | refine IsS60.far ?_ NB0_258.out _))⟩, ⟨by repeat ((with_reducible first | exact HK.out | refine keep_far ?_ GW258.out _))⟩, ⟨by repeat ((with_reducible first | exact HB.out | refine below_set ?_ GE258.out))⟩⟩
   rw [if_pos c99] at H
   have c99b0 : (t302 == 0) = true := beq_iff_eq.mpr c99
   have c99b1 : (t302 != 0) = false := bne_eq_false_iff_eq.mpr c99
   clear c99
   have H' := Aside0.mk H
   clear H
   (try rw [c99b0])
   (try rw [c99b1])
   have hnb120 := NB253_252.out
   have hnc120 := NB252_253.out
   have hnb121 := NB253_0.out
   have hnc121 := NB0_253.out
   obtain ⟨z0, z1, z2, z3, z4, z5⟩ := bz3 BK253.out
   try go_wp2
   go_roundg k1
   case measure => have := HK1.out; omega
   case rel => exact ⟨(wrap64 (x4_1 - 1)), (t293), (t294), (t295), (t296), (t297), (t298), (.slice Ao115 t298.length co115), zb7_7, H', ⟨by have := HK1.out; omega⟩, ⟨by exact Kd.R_mono (rfa (rfa (rfa (rfa (rfa (rfa (rfa (rfa (Kd.R_types (Kd.R_types HO300.out BK258.out (by decide)) BK253.out (by decide)) (fun _ hk => hk.1.2)) (fun _ hk => hk.1.2)) (fun _ hk => hk.1.2)) (fun _ hk => hk.1.2)) (fun _ hk => hk.1.2)) (fun _ h => h.2)) (fun _ h => h.2)) (fun _ h => h.2)) (fun _ hk => trivial)⟩, ⟨by refine blk_far ?_ NB252_253.out _; refine blk_far ?_ NB252_253.out _; refine blk_far ?_ NB252_253.out _; refine blk_far ?_ NB252_258.out _; refine blk_far ?_ NB252_258.out _; refine blk_far ?_ NB252_258.out _; refine blk_far ?_ NB252_258.out _; refine blk_far ?_ NB252_258.out _; exact BK252.out⟩, ⟨by apply bp3; refine blk_far ?_ NB253_258.out _; refine blk_far ?_ NB253_258.out _; refine blk_far ?_ NB253_258.out _; refine blk_far ?_ NB253_258.out _; refine blk_far ?_ NB253_258.out _; exact BK253.out⟩, ⟨by repeat ((with_reducible first | exact HI0.out | refine IsS60.far ?_ NB0_253.out _ | refine IsS60.far ?_ NB0_258.out _))⟩, ⟨by repeat ((with_reducible first | exact HK.out | refine keep_far ?_ GW253.out _ | refine keep_far ?_ GW258.out _))⟩, ⟨by repeat ((with_reducible first | exact HB.out | refine below_set ?_ GE253.out | refine below_set ?_ GE258.out))⟩⟩
end Go.Proofs.YtfijkimkdccioaaDoor.QFnDialback
