-- laid by this session's own runner (wip/print2.py): not a printed file
import Derived.Test.YtfijkimkdccioaaDoorQFnDialbackx0
import Derived.Test.YtfijkimkdccioaaDoorQFnDialbackx8
namespace Go.Proofs.YtfijkimkdccioaaDoor.QFnDialback
open Go.RowKit Go.Proofs.YtfijkimkdccioaaDoorW.PrintWords Go.Proofs.YtfijkimkdccioaaDoorW.PrintLast Go.Proofs.YtfijkimkdccioaaDoorW.PrintMore
attribute [local go_sem] max2_int min2_int max_two min_two max_three min_three max_four min_four   -- for this text's walks alone
set_option linter.unusedVariables false
set_option linter.unusedSimpArgs false

abbrev zm0_9 : Array Bool := pm 0 11
abbrev zm1_9 : Array Bool := pm 1 10
abbrev zm2_9 : Array Bool := pm 2 9
abbrev zm3_9 : Array Bool := pm 3 8
abbrev zm4_9 : Array Bool := pm 4 7
abbrev zm5_9 : Array Bool := #[I,I,I,I,O,O,I,O,O,O,O]
abbrev zm6_9 : Array Bool := #[I,I,I,I,I,O,I,O,O,O,O]
abbrev zm7_9 : Array Bool := pm 7 4
abbrev zm8_9 : Array Bool := pm 8 3
abbrev zm9_9 : Array Bool := pm 9 2
abbrev zm10_9 : Array Bool := pm 10 1
abbrev zm11_9 : Array Bool := pm 11 0
abbrev zm12_9 : Array Bool := pm 5 6
abbrev zm13_9 : Array Bool := pm 6 5
theorem bcq_9 {w : World} {g t : Nat} {cs : Array Value} {v : Value} (h : w.heap[g]? = some (.cells cs t (0, 0))) (j : Nat) (e : cs[j]? = some v := by rfl) : w.cell? ⟨g, j, none⟩ = some v := (blk_cell h j).trans e
theorem zb0_9 {P : Prop} (h : P := by repeat ((with_reducible (exact HB.out)))) : P := h
theorem zb1_9 {P : Prop} (h : P := by rw [hg]; exact (below_size (by repeat ((with_reducible (exact HB.out)))))) : P := h
theorem zb2_9 {P : Prop} (h : P := by (try simp only [List.map_toArray, List.map_cons, List.map_nil]); rfl) : P := h
theorem zb3_9 {P : Prop} (h : P := by (exact hmx.below HB.out)) : P := h
theorem zb4_9 {P : Prop} (h : P := by (with_reducible repeat ((refine blk_drewN ?_ _))); exact BK363.out) : P := h
theorem zb5_9 {P : Prop} (h : P := by repeat ((with_reducible first | exact HB.out | apply pw_below_drewN))) : P := h
theorem zb6_9 {P : Prop} (h : P := by rw [hg]; exact (below_size (by repeat ((with_reducible (exact HB.out)))))) : P := h
theorem zb7_9 {P : Prop} (h : P := by rw [hg]; exact Nat.ne_of_lt (blk_lt (g := gb363) (o := .cells #[.string (⟨#[]⟩ : ByteArray), .string (⟨#[]⟩ : ByteArray), .string (⟨#[]⟩ : ByteArray)] 63 (0, 0)) (by exact BK363.out))) : P := h
theorem zb8_9 {P : Prop} (h : P := by rw [hg]; exact Nat.ne_of_gt (blk_lt (g := gb363) (o := .cells #[.string (⟨#[]⟩ : ByteArray), .string (⟨#[]⟩ : ByteArray), .string (⟨#[]⟩ : ByteArray)] 63 (0, 0)) (by exact BK363.out))) : P := h
theorem zb9_9 {P : Prop} (h : P := by exact BK370.out) : P := h
theorem zb10_9 {P : Prop} (h : P := by repeat ((with_reducible (exact HB.out)))) : P := h
theorem zb11_9 {P : Prop} (h : P := by exact BK373.out) : P := h
theorem zb12_9 {P : Prop} (h : P := by repeat ((with_reducible (exact HB.out)))) : P := h
theorem zb13_9 {P : Prop} (h : P := by (exact hmx)) : P := h
theorem zk0_9 {P : Prop} (h : P := by exact ⟨(blk_cell BK370.out 0).trans rfl, (blk_cell BK370.out 1).trans rfl, (blk_cell BK370.out 2).trans rfl⟩) : P := h
theorem zk1_9 {P : Prop} (h : P := by exact ⟨(blk_cell BK373.out 0).trans rfl, (blk_cell BK373.out 1).trans rfl, (blk_cell BK373.out 2).trans rfl⟩) : P := h
theorem zk2_9 {P : Prop} (h : P := by exact ⟨((cell_far (p := ⟨gb363, _, none⟩) NB370_363.out _).trans (((cell_far (p := ⟨gb363, _, none⟩) NB370_363.out _).trans (((cell_far (p := ⟨gb363, _, none⟩) NB370_363.out _).trans (hHeld.1)))))), ((cell_far (p := ⟨gb363, _, none⟩) NB370_363.out _).trans (((cell_far (p := ⟨gb363, _, none⟩) NB370_363.out _).trans (((cell_far (p := ⟨gb363, _, none⟩) NB370_363.out _).trans (hHeld.2.1)))))), ((cell_far (p := ⟨gb363, _, none⟩) NB370_363.out _).trans (((cell_far (p := ⟨gb363, _, none⟩) NB370_363.out _).trans (((cell_far (p := ⟨gb363, _, none⟩) NB370_363.out _).trans (hHeld.2.2))))))⟩) : P := h
theorem zk3_9 {P : Prop} (h : P := by exact ⟨((cell_far (p := ⟨gb363, _, none⟩) NB373_363.out _).trans (((cell_far (p := ⟨gb363, _, none⟩) NB373_363.out _).trans (((cell_far (p := ⟨gb363, _, none⟩) NB373_363.out _).trans (hHeld.1)))))), ((cell_far (p := ⟨gb363, _, none⟩) NB373_363.out _).trans (((cell_far (p := ⟨gb363, _, none⟩) NB373_363.out _).trans (((cell_far (p := ⟨gb363, _, none⟩) NB373_363.out _).trans (hHeld.2.1)))))), ((cell_far (p := ⟨gb363, _, none⟩) NB373_363.out _).trans (((cell_far (p := ⟨gb363, _, none⟩) NB373_363.out _).trans (((cell_far (p := ⟨gb363, _, none⟩) NB373_363.out _).trans (hHeld.2.2))))))⟩) : P := h
/-! ### impl_readJid: function 35 -/
def impl_readJid.f (k : Nat) (a0 : ByteArray) : Option (ByteArray × ByteArray × ByteArray × Bool) := (strings_Cut.f a0 (⟨#[47]⟩ : ByteArray)).bind fun bt364 => ((strings_Cut.f bt364.1 (⟨#[64]⟩ : ByteArray)).bind fun bt367 => (if bt367.2.2 = true then ((impl_JidRight.f k bt367.1 bt367.2.1 bt364.2.1).bind fun t371 => (if t371 = true then ((impl_Jid_text.f bt367.1 bt367.2.1 bt364.2.1).bind fun t372 => (some (bt367.1, bt367.2.1, bt364.2.1, (t372.toList == a0.toList)))) else (some (bt367.1, bt367.2.1, bt364.2.1, false)))) else ((impl_JidRight.f k (⟨#[]⟩ : ByteArray) bt364.1 bt364.2.1).bind fun t374 => (if t374 = true then ((impl_Jid_text.f (⟨#[]⟩ : ByteArray) bt364.1 bt364.2.1).bind fun t375 => (some ((⟨#[]⟩ : ByteArray), bt364.1, bt364.2.1, (t375.toList == a0.toList)))) else (some ((⟨#[]⟩ : ByteArray), bt364.1, bt364.2.1, false))))))
theorem impl_readJid.mono : ∀ a0 k, LeO (impl_readJid.f k a0) (impl_readJid.f (k + 1) a0) := by
 intro a0 k
 unfold impl_readJid.f
 repeat' first
   | (with_reducible exact impl_JidRight.mono _ _ _ _)
   | (with_reducible exact LeO.refl _)
   | (with_reducible exact LeO.none _)
   | (with_reducible refine LeO.ite ?_ ?_)
   | (with_reducible refine LeO.bind ?_ (fun _ => ?_))
   | exact impl_JidRight.mono _ _ _ _
   | exact LeO.none _
   | refine LeO.ite ?_ ?_
   | refine LeO.bind ?_ (fun _ => ?_)
def impl_readJid.T6 : Bool × List (List Nat × List Nat) := (true, [([], []), ([], []), ([1], [1]), ([2, 2], [2]), ([3], [3]), ([4, 3, 3], [3, 4]), ([3], [3]), ([5, 6, 3], [3, 5, 6]), ([3, 7], [3, 7]), ([0, 5, 0], [0]), ([8, 9, 0, 1, 2, 3, 4, 5, 6, 7, 8, 9], [8])])
def impl_readJid.B6 : List Nat := [0, 0, 2, 6, 14, 30, 14, 126, 254, 63, 1023]
theorem impl_readJid.tab6 : rtab .any (opsOf Tryd.f35 6) = impl_readJid.T6 := by kernel_rfl
theorem impl_readJid.bits6 : waitsOk impl_readJid.T6.2 impl_readJid.B6 = true := by kernel_rfl
set_option maxHeartbeats 8000000 in
set_option maxRecDepth 100000 in
theorem impl_readJid.calls (k : Nat) (a0 : ByteArray) (r1 : ByteArray) (r2 : ByteArray) (r3 : ByteArray) (r4 : Bool) (w : World) (h : impl_readJid.f k a0 = some (r1, r2, r3, r4)) (hmx : MaxIs w) :
  Calls Tryd.prog 35 #[.string a0] w fun e w' => e = .returned (.tuple #[.agg #[.string r1, .string r2, .string r3], .bool r4]) ∧ Below w.heap.size w w' := by
 have hu63 := Tryd.underlying63
 have HB := Aside0.mk (Below.refl w.heap.size w)
 have H : ((strings_Cut.f a0 (⟨#[47]⟩ : ByteArray)).bind fun bt364 => ((strings_Cut.f bt364.1 (⟨#[64]⟩ : ByteArray)).bind fun bt367 => (if bt367.2.2 = true then ((impl_JidRight.f k bt367.1 bt367.2.1 bt364.2.1).bind fun t371 => (if t371 = true then ((impl_Jid_text.f bt367.1 bt367.2.1 bt364.2.1).bind fun t372 => (some (bt367.1, bt367.2.1, bt364.2.1, (t372.toList == a0.toList)))) else (some (bt367.1, bt367.2.1, bt364.2.1, false)))) else ((impl_JidRight.f k (⟨#[]⟩ : ByteArray) bt364.1 bt364.2.1).bind fun t374 => (if t374 = true then ((impl_Jid_text.f (⟨#[]⟩ : ByteArray) bt364.1 bt364.2.1).bind fun t375 => (some ((⟨#[]⟩ : ByteArray), bt364.1, bt364.2.1, (t375.toList == a0.toList)))) else (some ((⟨#[]⟩ : ByteArray), bt364.1, bt364.2.1, false))))))) = some (r1, r2, r3, r4) := h
 clear h
 replace H := Option.bind_eq_some_iff.mp H
 obtain ⟨⟨t364, t365, t366⟩, A20, H⟩ := H
 (try dsimp -simprocs only at H)
 have A2 := Aside0.mk A20
 clear A20
 replace H := Option.bind_eq_some_iff.mp H
 obtain ⟨⟨t367, t368, t369⟩, A30, H⟩ := H
 (try dsimp -simprocs only at H)
 have A3 := Aside0.mk A30
 clear A30
 go_enter Tryd.func35, Tryd.ntmps35
 by_cases c4 : t369 = true
 ·
  subst c4
  rw [if_pos rfl] at H
  replace H := Option.bind_eq_some_iff.mp H
  obtain ⟨t371, A50, H⟩ := H
  (try dsimp -simprocs only at H)
  have A5 := Aside0.mk A50
  clear A50
  try go_wp2_with (first | ((with_reducible refine gate_dst (N := 2) rfl ?_); refine box_event ?hg (N := 2) ?hd (cs := #[.string (⟨#[]⟩ : ByteArray), .string (⟨#[]⟩ : ByteArray), .string (⟨#[]⟩ : ByteArray)]) (t := 63) ?hr ?_; (case hd => rfl); (case hg => rfl); (case hr => (go_simp; done)); intro gb363 hg w8 hbox hb; have BK363 := Aside0.mk (hbox); have GW363 := Aside0.mk ((zb1_9 : w.heap.size ≤ gb363)); have GE363 := GW363; replace HB := Aside0.mk (below_step zb0_9 hb); clear hb hbox hg) | ((with_reducible refine gate_callee (f := 40) rfl ?_); refine goesL_ (some 13) rfl rfl Tryd.func40 (by kernel_rfl) rfl #[.string a0, .string (⟨#[47]⟩ : ByteArray)] rfl zb2_9 ?_; (with_reducible refine (strings_Cut.calls a0 (⟨#[47]⟩ : ByteArray) t364 t365 t366 _ A2.out zb3_9).mono ?_); rintro e w' ⟨rfl, ⟨nd, rfl⟩⟩; refine ⟨_, rfl, ?_⟩; (try (rw [drewN_self w8]; generalize hq_ : World.drewN w8 _ = w8; have n0_ : Aside0 (w8.heap[gb363]? = some (.cells #[.string (⟨#[]⟩ : ByteArray), .string (⟨#[]⟩ : ByteArray), .string (⟨#[]⟩ : ByteArray)] 63 (0, 0))) := ⟨by rw [← hq_]; exact zb4_9⟩; have n1_ : Aside0 (Below w.heap.size w w8) := ⟨by rw [← hq_]; exact zb5_9⟩; clear BK363 HB hq_; have BK363 := n0_; have HB := n1_; clear n0_ n1_))) | ((with_reducible refine gate_callee (f := 40) rfl ?_); refine goesL_ (some 19) rfl rfl Tryd.func40 (by kernel_rfl) rfl #[.string t364, .string (⟨#[64]⟩ : ByteArray)] rfl zb2_9 ?_; (with_reducible refine (strings_Cut.calls t364 (⟨#[64]⟩ : ByteArray) t367 t368 true _ A3.out zb3_9).mono ?_); rintro e w' ⟨rfl, ⟨nd, rfl⟩⟩; refine ⟨_, rfl, ?_⟩; (try (rw [drewN_self w8]; generalize hq_ : World.drewN w8 _ = w8; have n0_ : Aside0 (w8.heap[gb363]? = some (.cells #[.string (⟨#[]⟩ : ByteArray), .string (⟨#[]⟩ : ByteArray), .string (⟨#[]⟩ : ByteArray)] 63 (0, 0))) := ⟨by rw [← hq_]; exact zb4_9⟩; have n1_ : Aside0 (Below w.heap.size w w8) := ⟨by rw [← hq_]; exact zb5_9⟩; clear BK363 HB hq_; have BK363 := n0_; have HB := n1_; clear n0_ n1_))) | ((with_reducible refine gate_dst (N := 10) rfl ?_); refine box_event ?hg (N := 10) ?hd (cs := #[.string (⟨#[]⟩ : ByteArray), .string (⟨#[]⟩ : ByteArray), .string (⟨#[]⟩ : ByteArray)]) (t := 63) ?hr ?_; (case hd => rfl); (case hg => rfl); (case hr => (go_simp; done)); intro gb370 hg w9 hbox hb; have BK370 := Aside0.mk (hbox); have GW370 := Aside0.mk ((zb6_9 : w.heap.size ≤ gb370)); have GE370 := GW370; replace HB := Aside0.mk (below_step zb5_9 hb); have NB363_370 := Aside0.mk ((zb7_9 : gb363 ≠ gb370)); have NB370_363 := Aside0.mk ((zb8_9 : gb370 ≠ gb363)); replace BK363 := bkb BK363 hb; clear hb hbox hg; have hnb10 := NB370_363.out; have hnc10 := NB363_370.out; obtain ⟨z0, z1, z2, z3, z4, z5⟩ := bz3 BK370.out))
  obtain ⟨w12, hq_⟩ : ∃ W_, W_ = (((w9.setCell ⟨gb370, 0, none⟩ (.string t367)).setCell ⟨gb370, 1, none⟩ (.string t368)).setCell ⟨gb370, 2, none⟩ (.string t365)) := ⟨_, rfl⟩
  rw [← hq_]
  have n0_ : Aside0 (w12.heap[gb363]? = some (.cells #[.string (⟨#[]⟩ : ByteArray), .string (⟨#[]⟩ : ByteArray), .string (⟨#[]⟩ : ByteArray)] 63 (0, 0))) := ⟨by rw [hq_]; refine blk_far ?_ NB363_370.out _; refine blk_far ?_ NB363_370.out _; refine blk_far ?_ NB363_370.out _; exact BK363.out⟩
  have n1_ : Aside0 (w12.heap[gb370]? = some (.cells #[.string t367, .string t368, .string t365] 63 (0, 0))) := ⟨by rw [hq_]; apply bp3; exact BK370.out⟩
  have n2_ : Aside0 (Below w.heap.size w w12) := ⟨by rw [hq_]; repeat ((with_reducible first | exact HB.out | refine below_set ?_ GE370.out))⟩
  (try clear BK363)
  (try clear BK370)
  (try clear HB)
  clear hq_
  have BK363 := n0_
  have BK370 := n1_
  have HB := n2_
  clear n0_ n1_ n2_
  replace BK363 := Aside0.mk (blk_drew BK363.out)
  replace BK370 := Aside0.mk (blk_drew BK370.out)
  replace HB := Aside0.mk (below_drew1 HB.out)
  refine start_ (n := 11) (S := fun w' => w'.cell? ⟨gb370, 0, none⟩ = some (.string t367) ∧ w'.cell? ⟨gb370, 1, none⟩ = some (.string t368) ∧ w'.cell? ⟨gb370, 2, none⟩ = some (.string t365)) (ds := []) zm0_9 (by kernel_rfl) rfl rfl ⟨(blk_cell BK370.out 0).trans rfl, (blk_cell BK370.out 1).trans rfl, (blk_cell BK370.out 2).trans rfl⟩ (fun hHeld => ?_); refine with_tabW impl_readJid.tab6 impl_readJid.bits6 (fun HT_ HW_ => ?_)
  generalize w12.drew = w13 at BK363 BK370 HB hHeld ⊢
  refine zt 0 (some 30) zm1_9 HT_ HW_ hHeld ?_
  refine zt 1 (some 31) zm2_9 HT_ HW_ hHeld ?_
  refine one_ (i := 2) (N := some 32) zm3_9 rfl rfl (one_of HT_.out (by kernel_rfl)) (by decide) (fun K hK => ?_)
  refine goes_ Tryd.func41 (by kernel_rfl) rfl #[.agg #[.string t367, .string t368, .string t365]] (by rfl) rfl rfl zb2_9 ?_
  by_cases c6 : t371 = true
  rotate_left
  ·
   replace c6 := Bool.eq_false_iff.mpr c6
   subst c6
   rw [if_neg (show ¬ (false = true) by decide)] at H
   simp only [Option.some.injEq, Prod.mk.injEq] at H
   obtain ⟨rfl, rfl, rfl, rfl⟩ := H
   with_reducible refine (impl_JidRight.calls k t367 t368 t365 false _ A5.out zb3_9).mono ?_
   rintro e w25 ⟨rfl, hb⟩
   refine ⟨_, rfl, ?_⟩
   replace BK363 := bkb BK363 hb
   replace BK370 := bkb BK370 hb
   replace HB := Aside0.mk (below_step zb10_9 hb)
   (try clear hb)
   refine hK.out _ _ zk0_9 (fun hHeld => ?_)
   clear hK K
   refine zn (some 32) ?_
   refine zp 3 (some 33) zm4_9 HT_ ?_
   refine zu 4 (some 34) zm12_9 HT_ ?_
   refine zu 5 (some 35) zm13_9 HT_ ?_
   refine zu 6 (some 36) zm7_9 HT_ ?_
   refine zu 7 (some 37) zm8_9 HT_ ?_
   refine zp 8 (some 38) zm9_9 HT_ ?_
   refine one_ (i := 9) (N := none) zm10_9 rfl rfl (one_of HT_.out (by kernel_rfl)) (by decide) (fun K hK => ?_)
   have hs26 : w25.cell? ⟨gb363, 0, none⟩ = some (.string (⟨#[]⟩ : ByteArray)) := (blk_cell BK363.out 0).trans rfl
   have hfs26 := blk_frozen BK363.out 0
   have hns26_1 := NB370_363.out
   have hms26_1 := NB363_370.out
   have hs27 : w25.cell? ⟨gb363, 1, none⟩ = some (.string (⟨#[]⟩ : ByteArray)) := (blk_cell BK363.out 1).trans rfl
   have hfs27 := blk_frozen BK363.out 1
   have hns27_1 := NB370_363.out
   have hms27_1 := NB363_370.out
   have hs28 : w25.cell? ⟨gb363, 2, none⟩ = some (.string (⟨#[]⟩ : ByteArray)) := (blk_cell BK363.out 2).trans rfl
   have hfs28 := blk_frozen BK363.out 2
   have hns28_1 := NB370_363.out
   have hms28_1 := NB363_370.out
   refine skip_ (w1 := ?_) (by rfl) rfl ?_ ?_
   rotate_left
   · go_simp; rfl
   refine hK.out _ _ zk2_9 (fun hHeld => ?_)
   clear hK K
   refine zp 10 (some 3) zm11_9 HT_ ?_
   refine done_ (done_of HT_.out (by kernel_rfl)) ?_
   try go_wp2
   refine bodyPost_ret (results_ct rfl _ _ gb363 63 #[.string t367, .string t368, .string t365] (0, 0) _ rfl (by apply bp3; exact BK363.out) Tryd.underlying63 rfl (by kernel_rfl)) rfl ?_
   exact ⟨by rfl, by repeat ((with_reducible first | exact HB.out | refine below_set ?_ GE363.out))⟩
  subst c6
  rw [if_pos rfl] at H
  replace H := Option.bind_eq_some_iff.mp H
  obtain ⟨t372, A70, H⟩ := H
  (try dsimp -simprocs only at H)
  have A7 := Aside0.mk A70
  clear A70
  simp only [Option.some.injEq, Prod.mk.injEq] at H
  obtain ⟨rfl, rfl, rfl, rfl⟩ := H
  with_reducible refine (impl_JidRight.calls k t367 t368 t365 true _ A5.out zb3_9).mono ?_
  rintro e w14 ⟨rfl, hb⟩
  refine ⟨_, rfl, ?_⟩
  replace BK363 := bkb BK363 hb
  replace BK370 := bkb BK370 hb
  replace HB := Aside0.mk (below_step zb10_9 hb)
  (try clear hb)
  refine hK.out _ _ zk0_9 (fun hHeld => ?_)
  clear hK K
  refine zn (some 32) ?_
  refine zp 3 (some 33) zm4_9 HT_ ?_
  refine zp 6 (some 36) zm5_9 HT_ ?_
  refine zt 4 (some 34) zm6_9 HT_ HW_ hHeld ?_
  refine one_ (i := 5) (N := some 35) zm7_9 rfl rfl (one_of HT_.out (by kernel_rfl)) (by decide) (fun K hK => ?_)
  refine goes_ Tryd.func42 (by kernel_rfl) rfl #[.agg #[.string t367, .string t368, .string t365]] (by rfl) rfl rfl zb2_9 ?_
  with_reducible refine (impl_Jid_text.calls t367 t368 t365 t372 _ A7.out).mono ?_
  rintro e w15 ⟨rfl, hb⟩
  refine ⟨_, rfl, ?_⟩
  replace BK363 := bkb BK363 hb
  replace BK370 := bkb BK370 hb
  replace HB := Aside0.mk (below_step zb10_9 hb)
  (try clear hb)
  refine hK.out _ _ zk0_9 (fun hHeld => ?_)
  clear hK K
  refine zn (some 35) ?_
  refine zp 7 (some 37) zm8_9 HT_ ?_
  refine zp 8 (some 38) zm9_9 HT_ ?_
  refine one_ (i := 9) (N := none) zm10_9 rfl rfl (one_of HT_.out (by kernel_rfl)) (by decide) (fun K hK => ?_)
  have hs16 : w15.cell? ⟨gb363, 0, none⟩ = some (.string (⟨#[]⟩ : ByteArray)) := (blk_cell BK363.out 0).trans rfl
  have hfs16 := blk_frozen BK363.out 0
  have hns16_1 := NB370_363.out
  have hms16_1 := NB363_370.out
  have hs17 : w15.cell? ⟨gb363, 1, none⟩ = some (.string (⟨#[]⟩ : ByteArray)) := (blk_cell BK363.out 1).trans rfl
  have hfs17 := blk_frozen BK363.out 1
  have hns17_1 := NB370_363.out
  have hms17_1 := NB363_370.out
  have hs18 : w15.cell? ⟨gb363, 2, none⟩ = some (.string (⟨#[]⟩ : ByteArray)) := (blk_cell BK363.out 2).trans rfl
  have hfs18 := blk_frozen BK363.out 2
  have hns18_1 := NB370_363.out
  have hms18_1 := NB363_370.out
  refine skip_ (w1 := ?_) (by rfl) rfl ?_ ?_
  rotate_left
  · go_simp; rfl
  refine hK.out _ _ zk2_9 (fun hHeld => ?_)
  clear hK K
  refine zp 10 (some 3) zm11_9 HT_ ?_
  refine done_ (done_of HT_.out (by kernel_rfl)) ?_
  try go_wp2
  refine bodyPost_ret (results_ct rfl _ _ gb363 63 #[.string t367, .string t368, .string t365] (0, 0) _ rfl (by apply bp3; exact BK363.out) Tryd.underlying63 rfl (by kernel_rfl)) rfl ?_
  exact ⟨by rfl, by repeat ((with_reducible first | exact HB.out | refine below_set ?_ GE363.out))⟩
 replace c4 := Bool.eq_false_iff.mpr c4
 subst c4
 rw [if_neg (show ¬ (false = true) by decide)] at H
 replace H := Option.bind_eq_some_iff.mp H
 obtain ⟨t374, A290, H⟩ := H
 (try dsimp -simprocs only at H)
 have A29 := Aside0.mk A290
 clear A290
 try go_wp2_with (first | ((with_reducible refine gate_dst (N := 2) rfl ?_); refine box_event ?hg (N := 2) ?hd (cs := #[.string (⟨#[]⟩ : ByteArray), .string (⟨#[]⟩ : ByteArray), .string (⟨#[]⟩ : ByteArray)]) (t := 63) ?hr ?_; (case hd => rfl); (case hg => rfl); (case hr => (go_simp; done)); intro gb363 hg w32 hbox hb; have BK363 := Aside0.mk (hbox); have GW363 := Aside0.mk ((zb1_9 : w.heap.size ≤ gb363)); have GE363 := GW363; replace HB := Aside0.mk (below_step zb0_9 hb); clear hb hbox hg) | ((with_reducible refine gate_callee (f := 40) rfl ?_); refine goesL_ (some 13) rfl rfl Tryd.func40 (by kernel_rfl) rfl #[.string a0, .string (⟨#[47]⟩ : ByteArray)] rfl zb2_9 ?_; (with_reducible refine (strings_Cut.calls a0 (⟨#[47]⟩ : ByteArray) t364 t365 t366 _ A2.out zb3_9).mono ?_); rintro e w' ⟨rfl, ⟨nd, rfl⟩⟩; refine ⟨_, rfl, ?_⟩; (try (rw [drewN_self w32]; generalize hq_ : World.drewN w32 _ = w32; have n0_ : Aside0 (w32.heap[gb363]? = some (.cells #[.string (⟨#[]⟩ : ByteArray), .string (⟨#[]⟩ : ByteArray), .string (⟨#[]⟩ : ByteArray)] 63 (0, 0))) := ⟨by rw [← hq_]; exact zb4_9⟩; have n1_ : Aside0 (Below w.heap.size w w32) := ⟨by rw [← hq_]; exact zb5_9⟩; clear BK363 HB hq_; have BK363 := n0_; have HB := n1_; clear n0_ n1_))) | ((with_reducible refine gate_callee (f := 40) rfl ?_); refine goesL_ (some 19) rfl rfl Tryd.func40 (by kernel_rfl) rfl #[.string t364, .string (⟨#[64]⟩ : ByteArray)] rfl zb2_9 ?_; (with_reducible refine (strings_Cut.calls t364 (⟨#[64]⟩ : ByteArray) t367 t368 false _ A3.out zb3_9).mono ?_); rintro e w' ⟨rfl, ⟨nd, rfl⟩⟩; refine ⟨_, rfl, ?_⟩; (try (rw [drewN_self w32]; generalize hq_ : World.drewN w32 _ = w32; have n0_ : Aside0 (w32.heap[gb363]? = some (.cells #[.string (⟨#[]⟩ : ByteArray), .string (⟨#[]⟩ : ByteArray), .string (⟨#[]⟩ : ByteArray)] 63 (0, 0))) := ⟨by rw [← hq_]; exact zb4_9⟩; have n1_ : Aside0 (Below w.heap.size w w32) := ⟨by rw [← hq_]; exact zb5_9⟩; clear BK363 HB hq_; have BK363 := n0_; have HB := n1_; clear n0_ n1_))) | ((with_reducible refine gate_dst (N := 10) rfl ?_); refine box_event ?hg (N := 10) ?hd (cs := #[.string (⟨#[]⟩ : ByteArray), .string (⟨#[]⟩ : ByteArray), .string (⟨#[]⟩ : ByteArray)]) (t := 63) ?hr ?_; (case hd => rfl); (case hg => rfl); (case hr => (go_simp; done)); intro gb373 hg w33 hbox hb; have BK373 := Aside0.mk (hbox); have GW373 := Aside0.mk ((zb6_9 : w.heap.size ≤ gb373)); have GE373 := GW373; replace HB := Aside0.mk (below_step zb5_9 hb); have NB363_373 := Aside0.mk ((zb7_9 : gb363 ≠ gb373)); have NB373_363 := Aside0.mk ((zb8_9 : gb373 ≠ gb363)); replace BK363 := bkb BK363 hb; clear hb hbox hg; have hnb34 := NB373_363.out; have hnc34 := NB363_373.out; obtain ⟨z0, z1, z2, z3, z4, z5⟩ := bz3 BK373.out))
 obtain ⟨w36, hq_⟩ : ∃ W_, W_ = (((w33.setCell ⟨gb373, 0, none⟩ (.string (⟨#[]⟩ : ByteArray))).setCell ⟨gb373, 1, none⟩ (.string t364)).setCell ⟨gb373, 2, none⟩ (.string t365)) := ⟨_, rfl⟩
 rw [← hq_]
 have n0_ : Aside0 (w36.heap[gb363]? = some (.cells #[.string (⟨#[]⟩ : ByteArray), .string (⟨#[]⟩ : ByteArray), .string (⟨#[]⟩ : ByteArray)] 63 (0, 0))) := ⟨by rw [hq_]; refine blk_far ?_ NB363_373.out _; refine blk_far ?_ NB363_373.out _; refine blk_far ?_ NB363_373.out _; exact BK363.out⟩
 have n1_ : Aside0 (w36.heap[gb373]? = some (.cells #[.string (⟨#[]⟩ : ByteArray), .string t364, .string t365] 63 (0, 0))) := ⟨by rw [hq_]; apply bp3; exact BK373.out⟩
 have n2_ : Aside0 (Below w.heap.size w w36) := ⟨by rw [hq_]; repeat ((with_reducible first | exact HB.out | refine below_set ?_ GE373.out))⟩
 (try clear BK363)
 (try clear BK373)
 (try clear HB)
 clear hq_
 have BK363 := n0_
 have BK373 := n1_
 have HB := n2_
 clear n0_ n1_ n2_
 replace BK363 := Aside0.mk (blk_drew BK363.out)
 replace BK373 := Aside0.mk (blk_drew BK373.out)
 replace HB := Aside0.mk (below_drew1 HB.out)
 refine start_ (n := 11) (S := fun w' => w'.cell? ⟨gb373, 0, none⟩ = some (.string (⟨#[]⟩ : ByteArray)) ∧ w'.cell? ⟨gb373, 1, none⟩ = some (.string t364) ∧ w'.cell? ⟨gb373, 2, none⟩ = some (.string t365)) (ds := []) zm0_9 (by kernel_rfl) rfl rfl ⟨(blk_cell BK373.out 0).trans rfl, (blk_cell BK373.out 1).trans rfl, (blk_cell BK373.out 2).trans rfl⟩ (fun hHeld => ?_); refine with_tabW impl_readJid.tab6 impl_readJid.bits6 (fun HT_ HW_ => ?_)
 generalize w36.drew = w37 at BK363 BK373 HB hHeld ⊢
 refine zt 0 (some 30) zm1_9 HT_ HW_ hHeld ?_
 refine zt 1 (some 31) zm2_9 HT_ HW_ hHeld ?_
 refine one_ (i := 2) (N := some 32) zm3_9 rfl rfl (one_of HT_.out (by kernel_rfl)) (by decide) (fun K hK => ?_)
 refine goes_ Tryd.func41 (by kernel_rfl) rfl #[.agg #[.string (⟨#[]⟩ : ByteArray), .string t364, .string t365]] (by rfl) rfl rfl zb2_9 ?_
 by_cases c30 : t374 = true
 rotate_left
 ·
  replace c30 := Bool.eq_false_iff.mpr c30
  subst c30
  rw [if_neg (show ¬ (false = true) by decide)] at H
  simp only [Option.some.injEq, Prod.mk.injEq] at H
  obtain ⟨rfl, rfl, rfl, rfl⟩ := H
  with_reducible refine (impl_JidRight.calls k (⟨#[]⟩ : ByteArray) t364 t365 false _ A29.out zb3_9).mono ?_
  rintro e w49 ⟨rfl, hb⟩
  refine ⟨_, rfl, ?_⟩
  replace BK363 := bkb BK363 hb
  replace BK373 := bkb BK373 hb
  replace HB := Aside0.mk (below_step zb12_9 hb)
  (try clear hb)
  refine hK.out _ _ zk1_9 (fun hHeld => ?_)
  clear hK K
  refine zn (some 32) ?_
  refine zp 3 (some 33) zm4_9 HT_ ?_
  refine zu 4 (some 34) zm12_9 HT_ ?_
  refine zu 5 (some 35) zm13_9 HT_ ?_
  refine zu 6 (some 36) zm7_9 HT_ ?_
  refine zu 7 (some 37) zm8_9 HT_ ?_
  refine zp 8 (some 38) zm9_9 HT_ ?_
  refine one_ (i := 9) (N := none) zm10_9 rfl rfl (one_of HT_.out (by kernel_rfl)) (by decide) (fun K hK => ?_)
  have hs50 : w49.cell? ⟨gb363, 0, none⟩ = some (.string (⟨#[]⟩ : ByteArray)) := (blk_cell BK363.out 0).trans rfl
  have hfs50 := blk_frozen BK363.out 0
  have hns50_1 := NB373_363.out
  have hms50_1 := NB363_373.out
  have hs51 : w49.cell? ⟨gb363, 1, none⟩ = some (.string (⟨#[]⟩ : ByteArray)) := (blk_cell BK363.out 1).trans rfl
  have hfs51 := blk_frozen BK363.out 1
  have hns51_1 := NB373_363.out
  have hms51_1 := NB363_373.out
  have hs52 : w49.cell? ⟨gb363, 2, none⟩ = some (.string (⟨#[]⟩ : ByteArray)) := (blk_cell BK363.out 2).trans rfl
  have hfs52 := blk_frozen BK363.out 2
  have hns52_1 := NB373_363.out
  have hms52_1 := NB363_373.out
  refine skip_ (w1 := ?_) (by rfl) rfl ?_ ?_
  rotate_left
  · go_simp; rfl
  refine hK.out _ _ zk3_9 (fun hHeld => ?_)
  clear hK K
  refine zp 10 (some 3) zm11_9 HT_ ?_
  refine done_ (done_of HT_.out (by kernel_rfl)) ?_
  try go_wp2
  refine bodyPost_ret (results_ct rfl _ _ gb363 63 #[.string (⟨#[]⟩ : ByteArray), .string t364, .string t365] (0, 0) _ rfl (by apply bp3; exact BK363.out) Tryd.underlying63 rfl (by kernel_rfl)) rfl ?_
  exact ⟨by rfl, by repeat ((with_reducible first | exact HB.out | refine below_set ?_ GE363.out))⟩
 subst c30
 rw [if_pos rfl] at H
 replace H := Option.bind_eq_some_iff.mp H
 obtain ⟨t375, A310, H⟩ := H
 (try dsimp -simprocs only at H)
 have A31 := Aside0.mk A310
 clear A310
 simp only [Option.some.injEq, Prod.mk.injEq] at H
 obtain ⟨rfl, rfl, rfl, rfl⟩ := H
 with_reducible refine (impl_JidRight.calls k (⟨#[]⟩ : ByteArray) t364 t365 true _ A29.out zb3_9).mono ?_
 rintro e w38 ⟨rfl, hb⟩
 refine ⟨_, rfl, ?_⟩
 replace BK363 := bkb BK363 hb
 replace BK373 := bkb BK373 hb
 replace HB := Aside0.mk (below_step zb12_9 hb)
 (try clear hb)
 refine hK.out _ _ zk1_9 (fun hHeld => ?_)
 clear hK K
 refine zn (some 32) ?_
 refine zp 3 (some 33) zm4_9 HT_ ?_
 refine zp 6 (some 36) zm5_9 HT_ ?_
 refine zt 4 (some 34) zm6_9 HT_ HW_ hHeld ?_
 refine one_ (i := 5) (N := some 35) zm7_9 rfl rfl (one_of HT_.out (by kernel_rfl)) (by decide) (fun K hK => ?_)
 refine goes_ Tryd.func42 (by kernel_rfl) rfl #[.agg #[.string (⟨#[]⟩ : ByteArray), .string t364, .string t365]] (by rfl) rfl rfl zb2_9 ?_
 with_reducible refine (impl_Jid_text.calls (⟨#[]⟩ : ByteArray) t364 t365 t375 _ A31.out).mono ?_
 rintro e w39 ⟨rfl, hb⟩
 refine ⟨_, rfl, ?_⟩
 replace BK363 := bkb BK363 hb
 replace BK373 := bkb BK373 hb
 replace HB := Aside0.mk (below_step zb12_9 hb)
 (try clear hb)
 refine hK.out _ _ zk1_9 (fun hHeld => ?_)
 clear hK K
 refine zn (some 35) ?_
 refine zp 7 (some 37) zm8_9 HT_ ?_
 refine zp 8 (some 38) zm9_9 HT_ ?_
 refine one_ (i := 9) (N := none) zm10_9 rfl rfl (one_of HT_.out (by kernel_rfl)) (by decide) (fun K hK => ?_)
 have hs40 : w39.cell? ⟨gb363, 0, none⟩ = some (.string (⟨#[]⟩ : ByteArray)) := (blk_cell BK363.out 0).trans rfl
 have hfs40 := blk_frozen BK363.out 0
 have hns40_1 := NB373_363.out
 have hms40_1 := NB363_373.out
 have hs41 : w39.cell? ⟨gb363, 1, none⟩ = some (.string (⟨#[]⟩ : ByteArray)) := (blk_cell BK363.out 1).trans rfl
 have hfs41 := blk_frozen BK363.out 1
 have hns41_1 := NB373_363.out
 have hms41_1 := NB363_373.out
 have hs42 : w39.cell? ⟨gb363, 2, none⟩ = some (.string (⟨#[]⟩ : ByteArray)) := (blk_cell BK363.out 2).trans rfl
 have hfs42 := blk_frozen BK363.out 2
 have hns42_1 := NB373_363.out
 have hms42_1 := NB363_373.out
 refine skip_ (w1 := ?_) (by rfl) rfl ?_ ?_
 rotate_left
 · go_simp; rfl
 refine hK.out _ _ zk3_9 (fun hHeld => ?_)
 clear hK K
 refine zp 10 (some 3) zm11_9 HT_ ?_
 refine done_ (done_of HT_.out (by kernel_rfl)) ?_
 try go_wp2
 refine bodyPost_ret (results_ct rfl _ _ gb363 63 #[.string (⟨#[]⟩ : ByteArray), .string t364, .string t365] (0, 0) _ rfl (by apply bp3; exact BK363.out) Tryd.underlying63 rfl (by kernel_rfl)) rfl ?_
 exact ⟨by rfl, by repeat ((with_reducible first | exact HB.out | refine below_set ?_ GE363.out))⟩
/-! ### impl_isDomain: function 23 -/
def impl_isDomain.f (k : Nat) (a0 : ByteArray) : Option (Bool) := (impl_readJid.f k a0).bind fun bt376 => (if bt376.2.2.2 = true then (if bt376.1.toList = ([] : List UInt8) then (some (bt376.2.2.1.toList == ([] : List UInt8))) else (some false)) else (some false))
theorem impl_isDomain.mono : ∀ a0 k, LeO (impl_isDomain.f k a0) (impl_isDomain.f (k + 1) a0) := by
 intro a0 k
 unfold impl_isDomain.f
 repeat' first
   | (with_reducible exact impl_readJid.mono _ _)
   | (with_reducible exact LeO.refl _)
   | (with_reducible exact LeO.none _)
   | (with_reducible refine LeO.ite ?_ ?_)
   | (with_reducible refine LeO.bind ?_ (fun _ => ?_))
   | exact impl_readJid.mono _ _
   | exact LeO.none _
   | refine LeO.ite ?_ ?_
   | refine LeO.bind ?_ (fun _ => ?_)
set_option maxHeartbeats 8000000 in
set_option maxRecDepth 100000 in
theorem impl_isDomain.calls (k : Nat) (a0 : ByteArray) (r : Bool) (w : World) (h : impl_isDomain.f k a0 = some r) (hmx : MaxIs w) :
  Calls Tryd.prog 23 #[.string a0] w fun e w' => e = .returned (.bool r) ∧ Below w.heap.size w w' := by
 have hu63 := Tryd.underlying63
 have HB := Aside0.mk (Below.refl w.heap.size w)
 have H : ((impl_readJid.f k a0).bind fun bt376 => (if bt376.2.2.2 = true then (if bt376.1.toList = ([] : List UInt8) then (some (bt376.2.2.1.toList == ([] : List UInt8))) else (some false)) else (some false))) = some r := h
 clear h
 replace H := Option.bind_eq_some_iff.mp H
 obtain ⟨⟨t376, t377, t378, t379⟩, A20, H⟩ := H
 (try dsimp -simprocs only at H)
 have A2 := Aside0.mk A20
 clear A20
 go_enter Tryd.func23, Tryd.ntmps23
 by_cases c3 : t379 = true
 rotate_left
 ·
  replace c3 := Bool.eq_false_iff.mpr c3
  subst c3
  rw [if_neg (show ¬ (false = true) by decide)] at H
  obtain rfl := Option.some.inj H
  go_wp2_with (first | ((with_reducible refine gate_callee (f := 35) rfl ?_); refine goesL_ (some 7) rfl rfl Tryd.func35 (by kernel_rfl) rfl #[.string a0] rfl zb2_9 ?_; (with_reducible refine (impl_readJid.calls k a0 t376 t377 t378 false _ A2.out zb13_9).mono ?_); rintro e w11 ⟨rfl, hb⟩; refine ⟨_, rfl, ?_⟩; replace HB := Aside0.mk (below_step zb0_9 hb); (try clear hb)) | ((with_reducible refine gate_dst (N := 3) rfl ?_); refine box_event ?hg (N := 3) ?hd (cs := #[.string (⟨#[]⟩ : ByteArray), .string (⟨#[]⟩ : ByteArray), .string (⟨#[]⟩ : ByteArray)]) (t := 63) ?hr ?_; (case hd => rfl); (case hg => rfl); (case hr => (go_simp; done)); intro gb380 hg w12 hbox hb; have BK380 := Aside0.mk (hbox); have GW380 := Aside0.mk ((zb1_9 : w.heap.size ≤ gb380)); have GE380 := GW380; replace HB := Aside0.mk (below_step zb0_9 hb); clear hb hbox hg; obtain ⟨z0, z1, z2, z3, z4, z5⟩ := bz3 BK380.out))
  go_ret
  exact ⟨by rfl, by repeat ((with_reducible first | exact HB.out | refine below_set ?_ GE380.out))⟩
 subst c3
 rw [if_pos rfl] at H
 by_cases c4 : t376.toList = ([] : List UInt8)
 rotate_left
 ·
  rw [if_neg c4] at H
  have c4b0 : (t376.toList == ([] : List UInt8)) = false := beq_eq_false_iff_ne.mpr c4
  have c4b1 : (t376.toList != ([] : List UInt8)) = true := bne_iff_ne.mpr c4
  obtain rfl := Option.some.inj H
  (try rw [c4b0])
  (try rw [c4b1])
  go_wp2_with (first | ((with_reducible refine gate_callee (f := 35) rfl ?_); refine goesL_ (some 7) rfl rfl Tryd.func35 (by kernel_rfl) rfl #[.string a0] rfl zb2_9 ?_; (with_reducible refine (impl_readJid.calls k a0 t376 t377 t378 true _ A2.out zb13_9).mono ?_); rintro e w5 ⟨rfl, hb⟩; refine ⟨_, rfl, ?_⟩; replace HB := Aside0.mk (below_step zb0_9 hb); (try clear hb)) | ((with_reducible refine gate_dst (N := 3) rfl ?_); refine box_event ?hg (N := 3) ?hd (cs := #[.string (⟨#[]⟩ : ByteArray), .string (⟨#[]⟩ : ByteArray), .string (⟨#[]⟩ : ByteArray)]) (t := 63) ?hr ?_; (case hd => rfl); (case hg => rfl); (case hr => (go_simp; done)); intro gb380 hg w6 hbox hb; have BK380 := Aside0.mk (hbox); have GW380 := Aside0.mk ((zb1_9 : w.heap.size ≤ gb380)); have GE380 := GW380; replace HB := Aside0.mk (below_step zb0_9 hb); clear hb hbox hg; obtain ⟨z0, z1, z2, z3, z4, z5⟩ := bz3 BK380.out))
  go_ret
  exact ⟨by rfl, by repeat ((with_reducible first | exact HB.out | refine below_set ?_ GE380.out))⟩
 rw [if_pos c4] at H
 have c4b0 : (t376.toList == ([] : List UInt8)) = true := beq_iff_eq.mpr c4
 have c4b1 : (t376.toList != ([] : List UInt8)) = false := bne_eq_false_iff_eq.mpr c4
 clear c4
 obtain rfl := Option.some.inj H
 (try rw [c4b0])
 (try rw [c4b1])
 go_wp2_with (first | ((with_reducible refine gate_callee (f := 35) rfl ?_); refine goesL_ (some 7) rfl rfl Tryd.func35 (by kernel_rfl) rfl #[.string a0] rfl zb2_9 ?_; (with_reducible refine (impl_readJid.calls k a0 t376 t377 t378 true _ A2.out zb13_9).mono ?_); rintro e w5 ⟨rfl, hb⟩; refine ⟨_, rfl, ?_⟩; replace HB := Aside0.mk (below_step zb0_9 hb); (try clear hb)) | ((with_reducible refine gate_dst (N := 3) rfl ?_); refine box_event ?hg (N := 3) ?hd (cs := #[.string (⟨#[]⟩ : ByteArray), .string (⟨#[]⟩ : ByteArray), .string (⟨#[]⟩ : ByteArray)]) (t := 63) ?hr ?_; (case hd => rfl); (case hg => rfl); (case hr => (go_simp; done)); intro gb380 hg w6 hbox hb; have BK380 := Aside0.mk (hbox); have GW380 := Aside0.mk ((zb1_9 : w.heap.size ≤ gb380)); have GE380 := GW380; replace HB := Aside0.mk (below_step zb0_9 hb); clear hb hbox hg; obtain ⟨z0, z1, z2, z3, z4, z5⟩ := bz3 BK380.out))
 go_ret
 exact ⟨by rfl, by repeat ((with_reducible first | exact HB.out | refine below_set ?_ GE380.out))⟩
/-! ### impl_isId: function 34 -/
def impl_isId.f (a0 : Int) : Option (Bool) := (impl_in.f a0 1 1000000000).bind fun t381 => (some t381)
set_option maxHeartbeats 8000000 in
set_option maxRecDepth 100000 in
theorem impl_isId.calls (a0 : Int) (r : Bool) (w : World) (h : impl_isId.f a0 = some r) :
  Calls Tryd.prog 34 #[.int .i64 a0] w fun e w' => e = .returned (.bool r) ∧ Drawn0 w w' := by
 have H : ((impl_in.f a0 1 1000000000).bind fun t381 => (some t381)) = some r := h
 clear h
 replace H := Option.bind_eq_some_iff.mp H
 obtain ⟨t381, A20, H⟩ := H
 replace H : (some t381) = some r := H
 have A2 := Aside0.mk A20
 clear A20
 obtain rfl := Option.some.inj H
 go_enter Tryd.func34, Tryd.ntmps34
 go_wp2_with (((with_reducible refine gate_callee (f := 27) rfl ?_); refine goesL_ (some 4) rfl rfl Tryd.func27 (by kernel_rfl) rfl #[.int .i64 a0, .int .i64 1, .int .i64 1000000000] rfl zb2_9 ?_; (with_reducible refine (impl_in.calls a0 1 1000000000 t381 _ A2.out).mono ?_); rintro e w' ⟨rfl, ⟨nd, rfl⟩⟩; refine ⟨_, rfl, ?_⟩))
 go_ret
 exact ⟨by rfl, by repeat (first | exact Drawn0.refl _ | apply Drawn0.step)⟩
end Go.Proofs.YtfijkimkdccioaaDoor.QFnDialback
