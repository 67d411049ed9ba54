-- laid by this session's own runner (wip/print2.py): not a printed file
import Derived.Test.YtjchggdekbnmnaaDoorQFnExactDbResultx0
import Derived.Test.YtjchggdekbnmnaaDoorQFnExactDbResultx6
import Derived.Test.YtjchggdekbnmnaaDoorQFnExactDbResultx7
namespace Go.Proofs.YtjchggdekbnmnaaDoor.QFnExactDbResult
open Go.RowKit Go.Proofs.YtjchggdekbnmnaaDoorW.PrintWords Go.Proofs.YtjchggdekbnmnaaDoorW.PrintLast Go.Proofs.YtjchggdekbnmnaaDoorW.PrintMore
attribute [local go_sem] max2_int min2_int max_two min_two max_three min_three max_four min_four   -- for this text's walks alone
set_option linter.unusedVariables false
set_option linter.unusedSimpArgs false

theorem zp_8 {P : Program} {md : Region.Mode} {ops : Array Oper} {Q : Exit → Act → World → Prop} {S : World → Prop} {ds : List Nat} {T : Bool × List (List Nat × List Nat)} {fuel : Nat} {l : Array Bool} {a : Act} {w : World} {oi : Oper} {v : Value} {a' : Act} (i : Nat) (N : Option Tmp) (l' : Array Bool) (hT : Aside0 (rtab md ops = T))
    (h : wpAnyLast P md ops Q S ds fuel l' a' w) (hc : anyT T l.toList l'.toList i = true := by kernel_rfl) (hi : ops[i]? = some oi := by rfl) (hN : oi.dst = N := by rfl) (hQ : ∀ c a w, Q (.panic c) (a.put oi.dst v) w → Q (.panic c) a w := by exact fun _ _ _ h => h)
    (hy : Yields P ops oi v a := by (refine Or.inl ⟨by rfl, ?_⟩; intro w'; go_simp; with_reducible rfl)) (ha : a.put N v = a' := by (simp only [Act.put, List.setIfInBounds_toArray, List.set_cons_zero, List.set_cons_succ, i64_w, i32_w]; rfl)) : wpAnyLast P md ops Q S ds (fuel + 1) l a w :=
  pure_ l' hi hN (any_of hT.out hc) hQ hy ha h
theorem zu_8 {P : Program} {md : Region.Mode} {ops : Array Oper} {Q : Exit → Act → World → Prop} {S : World → Prop} {ds : List Nat} {T : Bool × List (List Nat × List Nat)} {fuel : Nat} {l : Array Bool} {a : Act} {w : World} {oi : Oper} {a' : Act} (i : Nat) (N : Option Tmp) (l' : Array Bool) (hT : Aside0 (rtab md ops = T))
    (h : wpAnyLast P md ops Q S ds fuel l' a' w) (hc : anyT T l.toList l'.toList i = true := by kernel_rfl) (hi : ops[i]? = some oi := by rfl) (hN : oi.dst = N := by rfl) (hQ : ∀ c a w, Q (.panic c) (a.put oi.dst undef) w → Q (.panic c) a w := by exact fun _ _ _ h => h)
    (hy : Yields P ops oi undef a := by exact Or.inr ⟨by rfl, rfl⟩) (ha : a.put N undef = a' := by (simp only [Act.put, List.setIfInBounds_toArray, List.set_cons_zero, List.set_cons_succ, i64_w, i32_w]; rfl)) : wpAnyLast P md ops Q S ds (fuel + 1) l a w :=
  pure_ l' hi hN (any_of hT.out hc) hQ hy ha h
abbrev zm0_8 : Array Bool := #[false, false, false, false, false, false, false, false, false, false, false]
abbrev zm1_8 : Array Bool := #[true, false, false, false, false, false, false, false, false, false, false]
abbrev zm2_8 : Array Bool := #[true, true, false, false, false, false, false, false, false, false, false]
abbrev zm3_8 : Array Bool := #[true, true, true, false, false, false, false, false, false, false, false]
abbrev zm4_8 : Array Bool := #[true, true, true, true, false, false, false, false, false, false, false]
abbrev zm5_8 : Array Bool := #[true, true, true, true, false, false, true, false, false, false, false]
abbrev zm6_8 : Array Bool := #[true, true, true, true, true, false, true, false, false, false, false]
abbrev zm7_8 : Array Bool := #[true, true, true, true, true, true, true, false, false, false, false]
abbrev zm8_8 : Array Bool := #[true, true, true, true, true, true, true, true, false, false, false]
abbrev zm9_8 : Array Bool := #[true, true, true, true, true, true, true, true, true, false, false]
abbrev zm10_8 : Array Bool := #[true, true, true, true, true, true, true, true, true, true, false]
abbrev zm11_8 : Array Bool := #[true, true, true, true, true, true, true, true, true, true, true]
abbrev zm12_8 : Array Bool := #[true, true, true, true, true, false, false, false, false, false, false]
abbrev zm13_8 : Array Bool := #[true, true, true, true, true, true, false, false, false, false, false]
theorem bcq_8 {w : World} {g t : Nat} {cs : Array Value} {v : Value} (h : w.heap[g]? = some (.cells cs t (0, 0))) (j : Nat) (e : cs[j]? = some v := by rfl) : w.cell? ⟨g, j, none⟩ = some v := (blk_cell h j).trans e
theorem zb0_8 {P : Prop} (h : P := by repeat (first | (with_reducible first | exact HB.out | apply below_alloc | apply pw_below_drewN | apply below_drew1) | exact HB.out)) : P := h
theorem zb1_8 {P : Prop} (h : P := by rw [hg]; exact (below_size (by repeat (first | (with_reducible first | exact HB.out | apply below_alloc | apply pw_below_drewN | apply below_drew1) | exact HB.out)))) : P := h
theorem zb2_8 {P : Prop} (h : P := by (try simp only [List.map_toArray, List.map_cons, List.map_nil]); first | done | rfl | (simp only [List.length_drop, List.length_take]; rfl)) : P := h
theorem zb3_8 {P : Prop} (h : P := by first | exact hmx | exact hmx.below HB.out | exact hmx.below (by repeat (first | (with_reducible first | exact HB.out | apply below_alloc | apply pw_below_drewN | apply below_drew1 | refine below_set ?_ GE245.out | refine below_set ?_ GE252.out | refine below_set ?_ GE255.out | exact Below.refl _ _) | exact HB.out | exact Below.refl _ _))) : P := h
theorem zb4_8 {P : Prop} (h : P := by (with_reducible repeat (first | refine blk_drewN ?_ _ | refine blk_drew ?_ | refine blk_alloc ?_ _)); exact BK245.out) : P := h
theorem zb5_8 {P : Prop} (h : P := by repeat (first | (with_reducible first | exact HB.out | apply below_alloc | apply pw_below_drewN | apply below_drew1 | refine below_set ?_ GE245.out) | exact HB.out)) : P := h
theorem zb6_8 {P : Prop} (h : P := by rw [hg]; exact (below_size (by repeat (first | (with_reducible first | exact HB.out | apply below_alloc | apply pw_below_drewN | apply below_drew1 | refine below_set ?_ GE245.out) | exact HB.out)))) : P := h
theorem zb7_8 {P : Prop} (h : P := by rw [hg]; exact Nat.ne_of_lt (blk_lt (g := gb245) (o := .cells #[.string (⟨#[]⟩ : ByteArray), .string (⟨#[]⟩ : ByteArray), .string (⟨#[]⟩ : ByteArray)] 100 (0, 0)) (by (with_reducible repeat (first | refine blk_drewN ?_ _ | refine blk_drew ?_ | refine blk_alloc ?_ _)); exact BK245.out))) : P := h
theorem zb8_8 {P : Prop} (h : P := by rw [hg]; exact Nat.ne_of_gt (blk_lt (g := gb245) (o := .cells #[.string (⟨#[]⟩ : ByteArray), .string (⟨#[]⟩ : ByteArray), .string (⟨#[]⟩ : ByteArray)] 100 (0, 0)) (by (with_reducible repeat (first | refine blk_drewN ?_ _ | refine blk_drew ?_ | refine blk_alloc ?_ _)); exact BK245.out))) : P := h
theorem zb9_8 {P : Prop} (h : P := by (with_reducible repeat (first | refine blk_drewN ?_ _ | refine blk_drew ?_ | refine blk_alloc ?_ _)); exact BK252.out) : P := h
theorem zb10_8 {P : Prop} (h : P := by repeat (first | (with_reducible first | exact HB.out | apply below_alloc | apply pw_below_drewN | apply below_drew1 | refine below_set ?_ GE245.out | refine below_set ?_ GE252.out) | exact HB.out)) : P := h
theorem zb11_8 {P : Prop} (h : P := by (with_reducible repeat (first | refine blk_drewN ?_ _ | refine blk_drew ?_ | refine blk_alloc ?_ _)); exact BK255.out) : P := h
theorem zb12_8 {P : Prop} (h : P := by repeat (first | (with_reducible first | exact HB.out | apply below_alloc | apply pw_below_drewN | apply below_drew1 | refine below_set ?_ GE245.out | refine below_set ?_ GE255.out) | exact HB.out)) : P := h
theorem zb13_8 {P : Prop} (h : P := by first | exact hmx | exact hmx.below HB.out | exact hmx.below (by repeat (first | (with_reducible first | exact HB.out | apply below_alloc | apply pw_below_drewN | apply below_drew1 | refine below_set ?_ GE262.out | exact Below.refl _ _) | exact HB.out | exact Below.refl _ _))) : P := h
/-! ### impl_readJid: function 72 -/
def impl_readJid.f (k : Nat) (a0 : ByteArray) : Option (ByteArray × ByteArray × ByteArray × Bool) := (strings_Cut.f a0 (⟨#[47]⟩ : ByteArray)).bind fun bt246 => ((strings_Cut.f bt246.1 (⟨#[64]⟩ : ByteArray)).bind fun bt249 => (if bt249.2.2 = true then ((impl_JidRight.f k bt249.1 bt249.2.1 bt246.2.1).bind fun t253 => (if t253 = true then ((impl_Jid_text.f bt249.1 bt249.2.1 bt246.2.1).bind fun t254 => (some (bt249.1, bt249.2.1, bt246.2.1, (t254.toList == a0.toList)))) else (some (bt249.1, bt249.2.1, bt246.2.1, false)))) else ((impl_JidRight.f k (⟨#[]⟩ : ByteArray) bt246.1 bt246.2.1).bind fun t256 => (if t256 = true then ((impl_Jid_text.f (⟨#[]⟩ : ByteArray) bt246.1 bt246.2.1).bind fun t257 => (some ((⟨#[]⟩ : ByteArray), bt246.1, bt246.2.1, (t257.toList == a0.toList)))) else (some ((⟨#[]⟩ : ByteArray), bt246.1, bt246.2.1, false))))))
theorem impl_readJid.mono : ∀ a0 k, LeO (impl_readJid.f k a0) (impl_readJid.f (k + 1) a0) := by
 intro a0 k
 unfold impl_readJid.f
 repeat' first
   | (with_reducible exact impl_JidRight.mono _ _ _ _)
   | (with_reducible exact LeO.refl _)
   | (with_reducible exact LeO.none _)
   | (with_reducible refine LeO.ite ?_ ?_)
   | (with_reducible refine LeO.bind ?_ (fun _ => ?_))
   | exact impl_JidRight.mono _ _ _ _
   | exact LeO.none _
   | refine LeO.ite ?_ ?_
   | refine LeO.bind ?_ (fun _ => ?_)
def impl_readJid.T6 : Bool × List (List Nat × List Nat) := (true, [([], []), ([], []), ([1], [1]), ([2, 2], [2]), ([3], [3]), ([4, 3, 3], [3, 4]), ([3], [3]), ([5, 6, 3], [3, 5, 6]), ([3, 7], [3, 7]), ([0, 5, 0], [0]), ([8, 9, 0, 1, 2, 3, 4, 5, 6, 7, 8, 9], [8])])
def impl_readJid.B6 : List Nat := [0, 0, 2, 6, 14, 30, 14, 126, 254, 63, 1023]
theorem impl_readJid.tab6 : rtab .any (opsOf Tryd.f72 6) = impl_readJid.T6 := by kernel_rfl
theorem impl_readJid.bits6 : waitsOk impl_readJid.T6.2 impl_readJid.B6 = true := by kernel_rfl
set_option maxHeartbeats 8000000 in
set_option maxRecDepth 100000 in
theorem impl_readJid.calls (k : Nat) (a0 : ByteArray) (r1 : ByteArray) (r2 : ByteArray) (r3 : ByteArray) (r4 : Bool) (w : World) (h : impl_readJid.f k a0 = some (r1, r2, r3, r4)) (hmx : MaxIs w) :
  Calls Tryd.prog 72 #[.string a0] w fun e w' => e = .returned (.tuple #[.agg #[.string r1, .string r2, .string r3], .bool r4]) ∧ Below w.heap.size w w' := by
 have hu100 := Tryd.underlying100
 have HB := Aside0.mk (Below.refl w.heap.size w)
 have H : ((strings_Cut.f a0 (⟨#[47]⟩ : ByteArray)).bind fun bt246 => ((strings_Cut.f bt246.1 (⟨#[64]⟩ : ByteArray)).bind fun bt249 => (if bt249.2.2 = true then ((impl_JidRight.f k bt249.1 bt249.2.1 bt246.2.1).bind fun t253 => (if t253 = true then ((impl_Jid_text.f bt249.1 bt249.2.1 bt246.2.1).bind fun t254 => (some (bt249.1, bt249.2.1, bt246.2.1, (t254.toList == a0.toList)))) else (some (bt249.1, bt249.2.1, bt246.2.1, false)))) else ((impl_JidRight.f k (⟨#[]⟩ : ByteArray) bt246.1 bt246.2.1).bind fun t256 => (if t256 = true then ((impl_Jid_text.f (⟨#[]⟩ : ByteArray) bt246.1 bt246.2.1).bind fun t257 => (some ((⟨#[]⟩ : ByteArray), bt246.1, bt246.2.1, (t257.toList == a0.toList)))) else (some ((⟨#[]⟩ : ByteArray), bt246.1, bt246.2.1, false))))))) = some (r1, r2, r3, r4) := h
 clear h
 replace H := Option.bind_eq_some_iff.mp H
 obtain ⟨⟨t246, t247, t248⟩, A20, H⟩ := H
 replace H : ((strings_Cut.f t246 (⟨#[64]⟩ : ByteArray)).bind fun bt249 => (if bt249.2.2 = true then ((impl_JidRight.f k bt249.1 bt249.2.1 t247).bind fun t253 => (if t253 = true then ((impl_Jid_text.f bt249.1 bt249.2.1 t247).bind fun t254 => (some (bt249.1, bt249.2.1, t247, (t254.toList == a0.toList)))) else (some (bt249.1, bt249.2.1, t247, false)))) else ((impl_JidRight.f k (⟨#[]⟩ : ByteArray) t246 t247).bind fun t256 => (if t256 = true then ((impl_Jid_text.f (⟨#[]⟩ : ByteArray) t246 t247).bind fun t257 => (some ((⟨#[]⟩ : ByteArray), t246, t247, (t257.toList == a0.toList)))) else (some ((⟨#[]⟩ : ByteArray), t246, t247, false)))))) = some (r1, r2, r3, r4) := H
 have A2 := Aside0.mk A20
 clear A20
 replace H := Option.bind_eq_some_iff.mp H
 obtain ⟨⟨t249, t250, t251⟩, A30, H⟩ := H
 replace H : (if t251 = true then ((impl_JidRight.f k t249 t250 t247).bind fun t253 => (if t253 = true then ((impl_Jid_text.f t249 t250 t247).bind fun t254 => (some (t249, t250, t247, (t254.toList == a0.toList)))) else (some (t249, t250, t247, false)))) else ((impl_JidRight.f k (⟨#[]⟩ : ByteArray) t246 t247).bind fun t256 => (if t256 = true then ((impl_Jid_text.f (⟨#[]⟩ : ByteArray) t246 t247).bind fun t257 => (some ((⟨#[]⟩ : ByteArray), t246, t247, (t257.toList == a0.toList)))) else (some ((⟨#[]⟩ : ByteArray), t246, t247, false))))) = some (r1, r2, r3, r4) := H
 have A3 := Aside0.mk A30
 clear A30
 by_cases c4 : t251 = true
 ·
  subst c4
  have H1 : ((impl_JidRight.f k t249 t250 t247).bind fun t253 => (if t253 = true then ((impl_Jid_text.f t249 t250 t247).bind fun t254 => (some (t249, t250, t247, (t254.toList == a0.toList)))) else (some (t249, t250, t247, false)))) = some (r1, r2, r3, r4) := by rw [if_pos rfl] at H; exact H
  clear H
  have H := H1
  clear H1
  replace H := Option.bind_eq_some_iff.mp H
  obtain ⟨t253, A50, H⟩ := H
  replace H : (if t253 = true then ((impl_Jid_text.f t249 t250 t247).bind fun t254 => (some (t249, t250, t247, (t254.toList == a0.toList)))) else (some (t249, t250, t247, false))) = some (r1, r2, r3, r4) := H
  have A5 := Aside0.mk A50
  clear A50
  by_cases c6 : t253 = true
  ·
   subst c6
   have H1 : ((impl_Jid_text.f t249 t250 t247).bind fun t254 => (some (t249, t250, t247, (t254.toList == a0.toList)))) = some (r1, r2, r3, r4) := by rw [if_pos rfl] at H; exact H
   clear H
   have H := H1
   clear H1
   replace H := Option.bind_eq_some_iff.mp H
   obtain ⟨t254, A70, H⟩ := H
   replace H : (some (t249, t250, t247, (t254.toList == a0.toList))) = some (r1, r2, r3, r4) := H
   have A7 := Aside0.mk A70
   clear A70
   simp only [Option.some.injEq, Prod.mk.injEq] at H
   obtain ⟨rfl, rfl, rfl, rfl⟩ := H
   go_enter Tryd.func72, Tryd.ntmps72
   try go_wp2_with (first | ((with_reducible refine gate_dst (N := 2) rfl ?_); refine box_event ?hg (N := 2) ?hd (cs := #[.string (⟨#[]⟩ : ByteArray), .string (⟨#[]⟩ : ByteArray), .string (⟨#[]⟩ : ByteArray)]) (t := 100) ?hr ?_; (case hd => rfl); (case hg => rfl); (case hr => first | (go_simp; done) | (go_simp; rfl)); intro gb245 hg w8 hbox hb; have n0_ := Aside0.mk (below_step zb0_8 hb); have n1_ := Aside0.mk (hbox); have n2_ := Aside0.mk ((zb1_8 : w.heap.size ≤ gb245)); have n3_ := Aside0.mk ((zb1_8 : w.heap.size ≤ gb245)); clear HB; have HB := n0_; have BK245 := n1_; have GW245 := n2_; have GE245 := n3_; clear n0_ n1_ n2_ n3_; clear hb hbox hg) | ((with_reducible refine gate_callee (f := 82) rfl ?_); refine goesL_ (some 13) rfl rfl Tryd.func82 (by kernel_rfl) rfl #[.string a0, .string (⟨#[47]⟩ : ByteArray)] rfl zb2_8 ?_; (with_reducible refine (strings_Cut.calls a0 (⟨#[47]⟩ : ByteArray) t246 t247 t248 _ A2.out zb3_8).mono ?_); rintro e w' ⟨rfl, ⟨nd, rfl⟩⟩; refine ⟨_, rfl, ?_⟩; (try (rw [drewN_self w8]; generalize hq_ : World.drewN w8 _ = w8; have n0_ : Aside0 (w8.heap[gb245]? = some (.cells #[.string (⟨#[]⟩ : ByteArray), .string (⟨#[]⟩ : ByteArray), .string (⟨#[]⟩ : ByteArray)] 100 (0, 0))) := ⟨by rw [← hq_]; exact zb4_8⟩; have n1_ : Aside0 (Below w.heap.size w w8) := ⟨by rw [← hq_]; exact zb5_8⟩; clear BK245 HB hq_; have BK245 := n0_; have HB := n1_; clear n0_ n1_))) | ((with_reducible refine gate_callee (f := 82) rfl ?_); refine goesL_ (some 19) rfl rfl Tryd.func82 (by kernel_rfl) rfl #[.string t246, .string (⟨#[64]⟩ : ByteArray)] rfl zb2_8 ?_; (with_reducible refine (strings_Cut.calls t246 (⟨#[64]⟩ : ByteArray) t249 t250 true _ A3.out zb3_8).mono ?_); rintro e w' ⟨rfl, ⟨nd, rfl⟩⟩; refine ⟨_, rfl, ?_⟩; (try (rw [drewN_self w8]; generalize hq_ : World.drewN w8 _ = w8; have n0_ : Aside0 (w8.heap[gb245]? = some (.cells #[.string (⟨#[]⟩ : ByteArray), .string (⟨#[]⟩ : ByteArray), .string (⟨#[]⟩ : ByteArray)] 100 (0, 0))) := ⟨by rw [← hq_]; exact zb4_8⟩; have n1_ : Aside0 (Below w.heap.size w w8) := ⟨by rw [← hq_]; exact zb5_8⟩; clear BK245 HB hq_; have BK245 := n0_; have HB := n1_; clear n0_ n1_))) | ((with_reducible refine gate_dst (N := 10) rfl ?_); refine box_event ?hg (N := 10) ?hd (cs := #[.string (⟨#[]⟩ : ByteArray), .string (⟨#[]⟩ : ByteArray), .string (⟨#[]⟩ : ByteArray)]) (t := 100) ?hr ?_; (case hd => rfl); (case hg => rfl); (case hr => first | (go_simp; done) | (go_simp; rfl)); intro gb252 hg w9 hbox hb; have n0_ := Aside0.mk (blk_below (g := gb245) (o := .cells #[.string (⟨#[]⟩ : ByteArray), .string (⟨#[]⟩ : ByteArray), .string (⟨#[]⟩ : ByteArray)] 100 (0, 0)) zb4_8 hb); have n1_ := Aside0.mk (below_step zb5_8 hb); have n2_ := Aside0.mk (hbox); have n3_ := Aside0.mk ((zb6_8 : w.heap.size ≤ gb252)); have n4_ := Aside0.mk ((zb6_8 : w.heap.size ≤ gb252)); have n5_ := Aside0.mk ((zb7_8 : gb245 ≠ gb252)); have n6_ := Aside0.mk ((zb8_8 : gb252 ≠ gb245)); clear BK245; clear HB; have BK245 := n0_; have HB := n1_; have BK252 := n2_; have GW252 := n3_; have GE252 := n4_; have NB245_252 := n5_; have NB252_245 := n6_; clear n0_ n1_ n2_ n3_ n4_ n5_ n6_; clear hb hbox hg; have hnb10 := NB252_245.out; have hnc10 := NB245_252.out; have hcz11_0 := bcq_8 BK252.out 0; have hcz11_1 := bcq_8 BK252.out 1; have hcz11_2 := bcq_8 BK252.out 2; have hfz11_0 := blk_frozen BK252.out 0; have hfz11_1 := blk_frozen BK252.out 1; have hfz11_2 := blk_frozen BK252.out 2))
   have n0_ : Aside0 ((((w9.setCell ⟨gb252, 0, none⟩ (.string t249)).setCell ⟨gb252, 1, none⟩ (.string t250)).setCell ⟨gb252, 2, none⟩ (.string t247)).heap[gb245]? = some (.cells #[.string (⟨#[]⟩ : ByteArray), .string (⟨#[]⟩ : ByteArray), .string (⟨#[]⟩ : ByteArray)] 100 (0, 0))) := ⟨by (with_reducible repeat (first | refine blk_drewN ?_ _ | refine blk_drew ?_ | refine blk_alloc ?_ _)); refine blk_far ?_ NB245_252.out _; (with_reducible repeat (first | refine blk_drewN ?_ _ | refine blk_drew ?_ | refine blk_alloc ?_ _)); refine blk_far ?_ NB245_252.out _; (with_reducible repeat (first | refine blk_drewN ?_ _ | refine blk_drew ?_ | refine blk_alloc ?_ _)); refine blk_far ?_ NB245_252.out _; (with_reducible repeat (first | refine blk_drewN ?_ _ | refine blk_drew ?_ | refine blk_alloc ?_ _)); exact BK245.out⟩
   have n1_ : Aside0 ((((w9.setCell ⟨gb252, 0, none⟩ (.string t249)).setCell ⟨gb252, 1, none⟩ (.string t250)).setCell ⟨gb252, 2, none⟩ (.string t247)).heap[gb252]? = some (.cells #[.string t249, .string t250, .string t247] 100 (0, 0))) := ⟨by (with_reducible repeat (first | refine blk_drewN ?_ _ | refine blk_drew ?_ | refine blk_alloc ?_ _)); refine blk_put (cs := #[.string t249, .string t250, .string (⟨#[]⟩ : ByteArray)]) ?_ 2 _ rfl; (with_reducible repeat (first | refine blk_drewN ?_ _ | refine blk_drew ?_ | refine blk_alloc ?_ _)); refine blk_put (cs := #[.string t249, .string (⟨#[]⟩ : ByteArray), .string (⟨#[]⟩ : ByteArray)]) ?_ 1 _ rfl; (with_reducible repeat (first | refine blk_drewN ?_ _ | refine blk_drew ?_ | refine blk_alloc ?_ _)); refine blk_put (cs := #[.string (⟨#[]⟩ : ByteArray), .string (⟨#[]⟩ : ByteArray), .string (⟨#[]⟩ : ByteArray)]) ?_ 0 _ rfl; (with_reducible repeat (first | refine blk_drewN ?_ _ | refine blk_drew ?_ | refine blk_alloc ?_ _)); exact BK252.out⟩
   have n2_ : Aside0 (Below w.heap.size w (((w9.setCell ⟨gb252, 0, none⟩ (.string t249)).setCell ⟨gb252, 1, none⟩ (.string t250)).setCell ⟨gb252, 2, none⟩ (.string t247))) := ⟨by repeat (first | (with_reducible first | exact HB.out | apply below_alloc | apply pw_below_drewN | apply below_drew1 | refine below_set ?_ GE245.out | refine below_set ?_ GE252.out) | exact HB.out)⟩
   (try clear BK245)
   (try clear BK252)
   (try clear HB)
   generalize (((w9.setCell ⟨gb252, 0, none⟩ (.string t249)).setCell ⟨gb252, 1, none⟩ (.string t250)).setCell ⟨gb252, 2, none⟩ (.string t247)) = w12 at n0_ n1_ n2_ ⊢
   have BK245 := n0_
   have BK252 := n1_
   have HB := n2_
   clear n0_ n1_ n2_
   have n0_ := Aside0.mk (blk_drew BK245.out)
   have n1_ := Aside0.mk (blk_drew BK252.out)
   have n2_ := Aside0.mk (below_drew1 HB.out)
   clear BK245
   clear BK252
   clear HB
   have BK245 := n0_
   have BK252 := n1_
   have HB := n2_
   clear n0_ n1_ n2_
   refine start_ (n := 11) (S := fun w' => w'.cell? ⟨gb252, 0, none⟩ = some (.string t249) ∧ w'.cell? ⟨gb252, 1, none⟩ = some (.string t250) ∧ w'.cell? ⟨gb252, 2, none⟩ = some (.string t247)) (ds := []) zm0_8 (by kernel_rfl) rfl rfl ⟨(blk_cell BK252.out 0).trans rfl, (blk_cell BK252.out 1).trans rfl, (blk_cell BK252.out 2).trans rfl⟩ (fun hHeld => ?_); refine with_tabW impl_readJid.tab6 impl_readJid.bits6 (fun HT_ HW_ => ?_)
   generalize w12.drew = w13 at BK245 BK252 HB hHeld ⊢
   refine take_ (i := 0) (N := some 30) (v := ?_) (a' := ?_) zm1_8 rfl rfl (take_ofW HT_.out HW_.out (by kernel_rfl)) (fun _ _ _ h => h) (Or.inl ⟨by rfl, ?_⟩) hHeld ?_ ?_
   rotate_left
   ·
    rintro w' ⟨s0, s1, s2⟩
    go_simp
    with_reducible rfl
   rotate_left
   ·
    simp only [Act.put, List.setIfInBounds_toArray, List.set_cons_zero, List.set_cons_succ, i64_w, i32_w]
    rfl
   refine take_ (i := 1) (N := some 31) (v := ?_) (a' := ?_) zm2_8 rfl rfl (take_ofW HT_.out HW_.out (by kernel_rfl)) (fun _ _ _ h => h) (Or.inl ⟨by rfl, ?_⟩) hHeld ?_ ?_
   rotate_left
   ·
    rintro w' ⟨s0, s1, s2⟩
    go_simp
    with_reducible rfl
   rotate_left
   ·
    simp only [Act.put, List.setIfInBounds_toArray, List.set_cons_zero, List.set_cons_succ, i64_w, i32_w]
    rfl
   refine one_ (i := 2) (N := some 32) zm3_8 rfl rfl (one_of HT_.out (by kernel_rfl)) (by decide) (fun K hK => ?_)
   refine goes_ Tryd.func83 (by kernel_rfl) rfl #[.agg #[.string t249, .string t250, .string t247]] (by rfl) rfl rfl zb2_8 ?_
   with_reducible refine (impl_JidRight.calls k t249 t250 t247 true _ A5.out zb3_8).mono ?_
   rintro e w14 ⟨rfl, hb⟩
   refine ⟨_, rfl, ?_⟩
   have n0_ := Aside0.mk (blk_below (g := gb245) (o := .cells #[.string (⟨#[]⟩ : ByteArray), .string (⟨#[]⟩ : ByteArray), .string (⟨#[]⟩ : ByteArray)] 100 (0, 0)) zb4_8 hb)
   have n1_ := Aside0.mk (blk_below (g := gb252) (o := .cells #[.string t249, .string t250, .string t247] 100 (0, 0)) zb9_8 hb)
   have n2_ := Aside0.mk (below_step zb10_8 hb)
   clear BK245
   clear BK252
   clear HB
   have BK245 := n0_
   have BK252 := n1_
   have HB := n2_
   clear n0_ n1_ n2_
   (try clear hb)
   (try clear hb2)
   (try clear hk)
   (try clear hi)
   refine hK.out _ _ ⟨(blk_cell BK252.out 0).trans rfl, (blk_cell BK252.out 1).trans rfl, (blk_cell BK252.out 2).trans rfl⟩ (fun hHeld => ?_)
   clear hK K
   refine norm_ (a' := ?_) ?_ ?_
   rotate_left
   ·
    show Act.put _ (some 32) _ = _
    simp only [Act.put, List.setIfInBounds_toArray, List.set_cons_zero, List.set_cons_succ, i64_w, i32_w]
    rfl
   refine zp_8 3 (some 33) zm4_8 HT_ ?_
   refine zp_8 6 (some 36) zm5_8 HT_ ?_
   refine take_ (i := 4) (N := some 34) (v := ?_) (a' := ?_) zm6_8 rfl rfl (take_ofW HT_.out HW_.out (by kernel_rfl)) (fun _ _ _ h => h) (Or.inl ⟨by rfl, ?_⟩) hHeld ?_ ?_
   rotate_left
   ·
    rintro w' ⟨s0, s1, s2⟩
    go_simp
    with_reducible rfl
   rotate_left
   ·
    simp only [Act.put, List.setIfInBounds_toArray, List.set_cons_zero, List.set_cons_succ, i64_w, i32_w]
    rfl
   refine one_ (i := 5) (N := some 35) zm7_8 rfl rfl (one_of HT_.out (by kernel_rfl)) (by decide) (fun K hK => ?_)
   refine goes_ Tryd.func84 (by kernel_rfl) rfl #[.agg #[.string t249, .string t250, .string t247]] (by rfl) rfl rfl zb2_8 ?_
   with_reducible refine (impl_Jid_text.calls t249 t250 t247 t254 _ A7.out).mono ?_
   rintro e w15 ⟨rfl, hb⟩
   refine ⟨_, rfl, ?_⟩
   have n0_ := Aside0.mk (blk_below (g := gb245) (o := .cells #[.string (⟨#[]⟩ : ByteArray), .string (⟨#[]⟩ : ByteArray), .string (⟨#[]⟩ : ByteArray)] 100 (0, 0)) zb4_8 hb)
   have n1_ := Aside0.mk (blk_below (g := gb252) (o := .cells #[.string t249, .string t250, .string t247] 100 (0, 0)) zb9_8 hb)
   have n2_ := Aside0.mk (below_step zb10_8 hb)
   clear BK245
   clear BK252
   clear HB
   have BK245 := n0_
   have BK252 := n1_
   have HB := n2_
   clear n0_ n1_ n2_
   (try clear hb)
   (try clear hb2)
   (try clear hk)
   (try clear hi)
   refine hK.out _ _ ⟨(blk_cell BK252.out 0).trans rfl, (blk_cell BK252.out 1).trans rfl, (blk_cell BK252.out 2).trans rfl⟩ (fun hHeld => ?_)
   clear hK K
   refine norm_ (a' := ?_) ?_ ?_
   rotate_left
   ·
    show Act.put _ (some 35) _ = _
    simp only [Act.put, List.setIfInBounds_toArray, List.set_cons_zero, List.set_cons_succ, i64_w, i32_w]
    rfl
   refine zp_8 7 (some 37) zm8_8 HT_ ?_
   refine zp_8 8 (some 38) zm9_8 HT_ ?_
   refine one_ (i := 9) (N := none) zm10_8 rfl rfl (one_of HT_.out (by kernel_rfl)) (by decide) (fun K hK => ?_)
   have hs16 : w15.cell? ⟨gb245, 0, none⟩ = some (.string (⟨#[]⟩ : ByteArray)) := (blk_cell BK245.out 0).trans rfl
   have hfs16 := blk_frozen BK245.out 0
   have hns16_1 := NB252_245.out
   have hms16_1 := NB245_252.out
   have hs17 : w15.cell? ⟨gb245, 1, none⟩ = some (.string (⟨#[]⟩ : ByteArray)) := (blk_cell BK245.out 1).trans rfl
   have hfs17 := blk_frozen BK245.out 1
   have hns17_1 := NB252_245.out
   have hms17_1 := NB245_252.out
   have hs18 : w15.cell? ⟨gb245, 2, none⟩ = some (.string (⟨#[]⟩ : ByteArray)) := (blk_cell BK245.out 2).trans rfl
   have hfs18 := blk_frozen BK245.out 2
   have hns18_1 := NB252_245.out
   have hms18_1 := NB245_252.out
   refine skip_ (w1 := ?_) (by rfl) rfl ?_ ?_
   rotate_left
   ·
    go_simp
    rfl
   refine hK.out _ _ ⟨((cell_far (p := ⟨gb245, _, none⟩) NB252_245.out _).trans (((cell_far (p := ⟨gb245, _, none⟩) NB252_245.out _).trans (((cell_far (p := ⟨gb245, _, none⟩) NB252_245.out _).trans (hHeld.1)))))), ((cell_far (p := ⟨gb245, _, none⟩) NB252_245.out _).trans (((cell_far (p := ⟨gb245, _, none⟩) NB252_245.out _).trans (((cell_far (p := ⟨gb245, _, none⟩) NB252_245.out _).trans (hHeld.2.1)))))), ((cell_far (p := ⟨gb245, _, none⟩) NB252_245.out _).trans (((cell_far (p := ⟨gb245, _, none⟩) NB252_245.out _).trans (((cell_far (p := ⟨gb245, _, none⟩) NB252_245.out _).trans (hHeld.2.2))))))⟩ (fun hHeld => ?_)
   clear hK K
   refine zp_8 10 (some 3) zm11_8 HT_ ?_
   refine done_ (done_of HT_.out (by kernel_rfl)) ?_
   try go_wp2
   refine bodyPost_ret (results_ct rfl _ _ gb245 100 #[.string t249, .string t250, .string t247] (0, 0) _ rfl (by (with_reducible repeat (first | refine blk_drewN ?_ _ | refine blk_drew ?_ | refine blk_alloc ?_ _)); refine blk_put (cs := #[.string t249, .string t250, .string (⟨#[]⟩ : ByteArray)]) ?_ 2 _ rfl; (with_reducible repeat (first | refine blk_drewN ?_ _ | refine blk_drew ?_ | refine blk_alloc ?_ _)); refine blk_put (cs := #[.string t249, .string (⟨#[]⟩ : ByteArray), .string (⟨#[]⟩ : ByteArray)]) ?_ 1 _ rfl; (with_reducible repeat (first | refine blk_drewN ?_ _ | refine blk_drew ?_ | refine blk_alloc ?_ _)); refine blk_put (cs := #[.string (⟨#[]⟩ : ByteArray), .string (⟨#[]⟩ : ByteArray), .string (⟨#[]⟩ : ByteArray)]) ?_ 0 _ rfl; (with_reducible repeat (first | refine blk_drewN ?_ _ | refine blk_drew ?_ | refine blk_alloc ?_ _)); exact BK245.out) Tryd.underlying100 rfl (by kernel_rfl)) rfl ?_
   exact ⟨by first | rfl | (simp [errW_none, errW_some] <;> rfl) | (simp [*, errW_none, errW_some] <;> rfl), by repeat (first | (with_reducible first | exact HB.out | apply below_alloc | apply pw_below_drewN | apply below_drew1 | refine below_set ?_ GE245.out | refine below_set ?_ GE252.out) | exact HB.out)⟩
  ·
   replace c6 := Bool.eq_false_iff.mpr c6
   subst c6
   have H1 : (some (t249, t250, t247, false)) = some (r1, r2, r3, r4) := by rw [if_neg (show ¬ (false = true) by decide)] at H; exact H
   clear H
   have H := H1
   clear H1
   simp only [Option.some.injEq, Prod.mk.injEq] at H
   obtain ⟨rfl, rfl, rfl, rfl⟩ := H
   go_enter Tryd.func72, Tryd.ntmps72
   try go_wp2_with (first | ((with_reducible refine gate_dst (N := 2) rfl ?_); refine box_event ?hg (N := 2) ?hd (cs := #[.string (⟨#[]⟩ : ByteArray), .string (⟨#[]⟩ : ByteArray), .string (⟨#[]⟩ : ByteArray)]) (t := 100) ?hr ?_; (case hd => rfl); (case hg => rfl); (case hr => first | (go_simp; done) | (go_simp; rfl)); intro gb245 hg w19 hbox hb; have n0_ := Aside0.mk (below_step zb0_8 hb); have n1_ := Aside0.mk (hbox); have n2_ := Aside0.mk ((zb1_8 : w.heap.size ≤ gb245)); have n3_ := Aside0.mk ((zb1_8 : w.heap.size ≤ gb245)); clear HB; have HB := n0_; have BK245 := n1_; have GW245 := n2_; have GE245 := n3_; clear n0_ n1_ n2_ n3_; clear hb hbox hg) | ((with_reducible refine gate_callee (f := 82) rfl ?_); refine goesL_ (some 13) rfl rfl Tryd.func82 (by kernel_rfl) rfl #[.string a0, .string (⟨#[47]⟩ : ByteArray)] rfl zb2_8 ?_; (with_reducible refine (strings_Cut.calls a0 (⟨#[47]⟩ : ByteArray) t246 t247 t248 _ A2.out zb3_8).mono ?_); rintro e w' ⟨rfl, ⟨nd, rfl⟩⟩; refine ⟨_, rfl, ?_⟩; (try (rw [drewN_self w19]; generalize hq_ : World.drewN w19 _ = w19; have n0_ : Aside0 (w19.heap[gb245]? = some (.cells #[.string (⟨#[]⟩ : ByteArray), .string (⟨#[]⟩ : ByteArray), .string (⟨#[]⟩ : ByteArray)] 100 (0, 0))) := ⟨by rw [← hq_]; exact zb4_8⟩; have n1_ : Aside0 (Below w.heap.size w w19) := ⟨by rw [← hq_]; exact zb5_8⟩; clear BK245 HB hq_; have BK245 := n0_; have HB := n1_; clear n0_ n1_))) | ((with_reducible refine gate_callee (f := 82) rfl ?_); refine goesL_ (some 19) rfl rfl Tryd.func82 (by kernel_rfl) rfl #[.string t246, .string (⟨#[64]⟩ : ByteArray)] rfl zb2_8 ?_; (with_reducible refine (strings_Cut.calls t246 (⟨#[64]⟩ : ByteArray) t249 t250 true _ A3.out zb3_8).mono ?_); rintro e w' ⟨rfl, ⟨nd, rfl⟩⟩; refine ⟨_, rfl, ?_⟩; (try (rw [drewN_self w19]; generalize hq_ : World.drewN w19 _ = w19; have n0_ : Aside0 (w19.heap[gb245]? = some (.cells #[.string (⟨#[]⟩ : ByteArray), .string (⟨#[]⟩ : ByteArray), .string (⟨#[]⟩ : ByteArray)] 100 (0, 0))) := ⟨by rw [← hq_]; exact zb4_8⟩; have n1_ : Aside0 (Below w.heap.size w w19) := ⟨by rw [← hq_]; exact zb5_8⟩; clear BK245 HB hq_; have BK245 := n0_; have HB := n1_; clear n0_ n1_))) | ((with_reducible refine gate_dst (N := 10) rfl ?_); refine box_event ?hg (N := 10) ?hd (cs := #[.string (⟨#[]⟩ : ByteArray), .string (⟨#[]⟩ : ByteArray), .string (⟨#[]⟩ : ByteArray)]) (t := 100) ?hr ?_; (case hd => rfl); (case hg => rfl); (case hr => first | (go_simp; done) | (go_simp; rfl)); intro gb252 hg w20 hbox hb; have n0_ := Aside0.mk (blk_below (g := gb245) (o := .cells #[.string (⟨#[]⟩ : ByteArray), .string (⟨#[]⟩ : ByteArray), .string (⟨#[]⟩ : ByteArray)] 100 (0, 0)) zb4_8 hb); have n1_ := Aside0.mk (below_step zb5_8 hb); have n2_ := Aside0.mk (hbox); have n3_ := Aside0.mk ((zb6_8 : w.heap.size ≤ gb252)); have n4_ := Aside0.mk ((zb6_8 : w.heap.size ≤ gb252)); have n5_ := Aside0.mk ((zb7_8 : gb245 ≠ gb252)); have n6_ := Aside0.mk ((zb8_8 : gb252 ≠ gb245)); clear BK245; clear HB; have BK245 := n0_; have HB := n1_; have BK252 := n2_; have GW252 := n3_; have GE252 := n4_; have NB245_252 := n5_; have NB252_245 := n6_; clear n0_ n1_ n2_ n3_ n4_ n5_ n6_; clear hb hbox hg; have hnb21 := NB252_245.out; have hnc21 := NB245_252.out; have hcz22_0 := bcq_8 BK252.out 0; have hcz22_1 := bcq_8 BK252.out 1; have hcz22_2 := bcq_8 BK252.out 2; have hfz22_0 := blk_frozen BK252.out 0; have hfz22_1 := blk_frozen BK252.out 1; have hfz22_2 := blk_frozen BK252.out 2))
   have n0_ : Aside0 ((((w20.setCell ⟨gb252, 0, none⟩ (.string t249)).setCell ⟨gb252, 1, none⟩ (.string t250)).setCell ⟨gb252, 2, none⟩ (.string t247)).heap[gb245]? = some (.cells #[.string (⟨#[]⟩ : ByteArray), .string (⟨#[]⟩ : ByteArray), .string (⟨#[]⟩ : ByteArray)] 100 (0, 0))) := ⟨by (with_reducible repeat (first | refine blk_drewN ?_ _ | refine blk_drew ?_ | refine blk_alloc ?_ _)); refine blk_far ?_ NB245_252.out _; (with_reducible repeat (first | refine blk_drewN ?_ _ | refine blk_drew ?_ | refine blk_alloc ?_ _)); refine blk_far ?_ NB245_252.out _; (with_reducible repeat (first | refine blk_drewN ?_ _ | refine blk_drew ?_ | refine blk_alloc ?_ _)); refine blk_far ?_ NB245_252.out _; (with_reducible repeat (first | refine blk_drewN ?_ _ | refine blk_drew ?_ | refine blk_alloc ?_ _)); exact BK245.out⟩
   have n1_ : Aside0 ((((w20.setCell ⟨gb252, 0, none⟩ (.string t249)).setCell ⟨gb252, 1, none⟩ (.string t250)).setCell ⟨gb252, 2, none⟩ (.string t247)).heap[gb252]? = some (.cells #[.string t249, .string t250, .string t247] 100 (0, 0))) := ⟨by (with_reducible repeat (first | refine blk_drewN ?_ _ | refine blk_drew ?_ | refine blk_alloc ?_ _)); refine blk_put (cs := #[.string t249, .string t250, .string (⟨#[]⟩ : ByteArray)]) ?_ 2 _ rfl; (with_reducible repeat (first | refine blk_drewN ?_ _ | refine blk_drew ?_ | refine blk_alloc ?_ _)); refine blk_put (cs := #[.string t249, .string (⟨#[]⟩ : ByteArray), .string (⟨#[]⟩ : ByteArray)]) ?_ 1 _ rfl; (with_reducible repeat (first | refine blk_drewN ?_ _ | refine blk_drew ?_ | refine blk_alloc ?_ _)); refine blk_put (cs := #[.string (⟨#[]⟩ : ByteArray), .string (⟨#[]⟩ : ByteArray), .string (⟨#[]⟩ : ByteArray)]) ?_ 0 _ rfl; (with_reducible repeat (first | refine blk_drewN ?_ _ | refine blk_drew ?_ | refine blk_alloc ?_ _)); exact BK252.out⟩
   have n2_ : Aside0 (Below w.heap.size w (((w20.setCell ⟨gb252, 0, none⟩ (.string t249)).setCell ⟨gb252, 1, none⟩ (.string t250)).setCell ⟨gb252, 2, none⟩ (.string t247))) := ⟨by repeat (first | (with_reducible first | exact HB.out | apply below_alloc | apply pw_below_drewN | apply below_drew1 | refine below_set ?_ GE245.out | refine below_set ?_ GE252.out) | exact HB.out)⟩
   (try clear BK245)
   (try clear BK252)
   (try clear HB)
   generalize (((w20.setCell ⟨gb252, 0, none⟩ (.string t249)).setCell ⟨gb252, 1, none⟩ (.string t250)).setCell ⟨gb252, 2, none⟩ (.string t247)) = w23 at n0_ n1_ n2_ ⊢
   have BK245 := n0_
   have BK252 := n1_
   have HB := n2_
   clear n0_ n1_ n2_
   have n0_ := Aside0.mk (blk_drew BK245.out)
   have n1_ := Aside0.mk (blk_drew BK252.out)
   have n2_ := Aside0.mk (below_drew1 HB.out)
   clear BK245
   clear BK252
   clear HB
   have BK245 := n0_
   have BK252 := n1_
   have HB := n2_
   clear n0_ n1_ n2_
   refine start_ (n := 11) (S := fun w' => w'.cell? ⟨gb252, 0, none⟩ = some (.string t249) ∧ w'.cell? ⟨gb252, 1, none⟩ = some (.string t250) ∧ w'.cell? ⟨gb252, 2, none⟩ = some (.string t247)) (ds := []) zm0_8 (by kernel_rfl) rfl rfl ⟨(blk_cell BK252.out 0).trans rfl, (blk_cell BK252.out 1).trans rfl, (blk_cell BK252.out 2).trans rfl⟩ (fun hHeld => ?_); refine with_tabW impl_readJid.tab6 impl_readJid.bits6 (fun HT_ HW_ => ?_)
   generalize w23.drew = w24 at BK245 BK252 HB hHeld ⊢
   refine take_ (i := 0) (N := some 30) (v := ?_) (a' := ?_) zm1_8 rfl rfl (take_ofW HT_.out HW_.out (by kernel_rfl)) (fun _ _ _ h => h) (Or.inl ⟨by rfl, ?_⟩) hHeld ?_ ?_
   rotate_left
   ·
    rintro w' ⟨s0, s1, s2⟩
    go_simp
    with_reducible rfl
   rotate_left
   ·
    simp only [Act.put, List.setIfInBounds_toArray, List.set_cons_zero, List.set_cons_succ, i64_w, i32_w]
    rfl
   refine take_ (i := 1) (N := some 31) (v := ?_) (a' := ?_) zm2_8 rfl rfl (take_ofW HT_.out HW_.out (by kernel_rfl)) (fun _ _ _ h => h) (Or.inl ⟨by rfl, ?_⟩) hHeld ?_ ?_
   rotate_left
   ·
    rintro w' ⟨s0, s1, s2⟩
    go_simp
    with_reducible rfl
   rotate_left
   ·
    simp only [Act.put, List.setIfInBounds_toArray, List.set_cons_zero, List.set_cons_succ, i64_w, i32_w]
    rfl
   refine one_ (i := 2) (N := some 32) zm3_8 rfl rfl (one_of HT_.out (by kernel_rfl)) (by decide) (fun K hK => ?_)
   refine goes_ Tryd.func83 (by kernel_rfl) rfl #[.agg #[.string t249, .string t250, .string t247]] (by rfl) rfl rfl zb2_8 ?_
   with_reducible refine (impl_JidRight.calls k t249 t250 t247 false _ A5.out zb3_8).mono ?_
   rintro e w25 ⟨rfl, hb⟩
   refine ⟨_, rfl, ?_⟩
   have n0_ := Aside0.mk (blk_below (g := gb245) (o := .cells #[.string (⟨#[]⟩ : ByteArray), .string (⟨#[]⟩ : ByteArray), .string (⟨#[]⟩ : ByteArray)] 100 (0, 0)) zb4_8 hb)
   have n1_ := Aside0.mk (blk_below (g := gb252) (o := .cells #[.string t249, .string t250, .string t247] 100 (0, 0)) zb9_8 hb)
   have n2_ := Aside0.mk (below_step zb10_8 hb)
   clear BK245
   clear BK252
   clear HB
   have BK245 := n0_
   have BK252 := n1_
   have HB := n2_
   clear n0_ n1_ n2_
   (try clear hb)
   (try clear hb2)
   (try clear hk)
   (try clear hi)
   refine hK.out _ _ ⟨(blk_cell BK252.out 0).trans rfl, (blk_cell BK252.out 1).trans rfl, (blk_cell BK252.out 2).trans rfl⟩ (fun hHeld => ?_)
   clear hK K
   refine norm_ (a' := ?_) ?_ ?_
   rotate_left
   ·
    show Act.put _ (some 32) _ = _
    simp only [Act.put, List.setIfInBounds_toArray, List.set_cons_zero, List.set_cons_succ, i64_w, i32_w]
    rfl
   refine zp_8 3 (some 33) zm4_8 HT_ ?_
   refine zu_8 4 (some 34) zm12_8 HT_ ?_
   refine zu_8 5 (some 35) zm13_8 HT_ ?_
   refine zu_8 6 (some 36) zm7_8 HT_ ?_
   refine zu_8 7 (some 37) zm8_8 HT_ ?_
   refine zp_8 8 (some 38) zm9_8 HT_ ?_
   refine one_ (i := 9) (N := none) zm10_8 rfl rfl (one_of HT_.out (by kernel_rfl)) (by decide) (fun K hK => ?_)
   have hs26 : w25.cell? ⟨gb245, 0, none⟩ = some (.string (⟨#[]⟩ : ByteArray)) := (blk_cell BK245.out 0).trans rfl
   have hfs26 := blk_frozen BK245.out 0
   have hns26_1 := NB252_245.out
   have hms26_1 := NB245_252.out
   have hs27 : w25.cell? ⟨gb245, 1, none⟩ = some (.string (⟨#[]⟩ : ByteArray)) := (blk_cell BK245.out 1).trans rfl
   have hfs27 := blk_frozen BK245.out 1
   have hns27_1 := NB252_245.out
   have hms27_1 := NB245_252.out
   have hs28 : w25.cell? ⟨gb245, 2, none⟩ = some (.string (⟨#[]⟩ : ByteArray)) := (blk_cell BK245.out 2).trans rfl
   have hfs28 := blk_frozen BK245.out 2
   have hns28_1 := NB252_245.out
   have hms28_1 := NB245_252.out
   refine skip_ (w1 := ?_) (by rfl) rfl ?_ ?_
   rotate_left
   ·
    go_simp
    rfl
   refine hK.out _ _ ⟨((cell_far (p := ⟨gb245, _, none⟩) NB252_245.out _).trans (((cell_far (p := ⟨gb245, _, none⟩) NB252_245.out _).trans (((cell_far (p := ⟨gb245, _, none⟩) NB252_245.out _).trans (hHeld.1)))))), ((cell_far (p := ⟨gb245, _, none⟩) NB252_245.out _).trans (((cell_far (p := ⟨gb245, _, none⟩) NB252_245.out _).trans (((cell_far (p := ⟨gb245, _, none⟩) NB252_245.out _).trans (hHeld.2.1)))))), ((cell_far (p := ⟨gb245, _, none⟩) NB252_245.out _).trans (((cell_far (p := ⟨gb245, _, none⟩) NB252_245.out _).trans (((cell_far (p := ⟨gb245, _, none⟩) NB252_245.out _).trans (hHeld.2.2))))))⟩ (fun hHeld => ?_)
   clear hK K
   refine zp_8 10 (some 3) zm11_8 HT_ ?_
   refine done_ (done_of HT_.out (by kernel_rfl)) ?_
   try go_wp2
   refine bodyPost_ret (results_ct rfl _ _ gb245 100 #[.string t249, .string t250, .string t247] (0, 0) _ rfl (by (with_reducible repeat (first | refine blk_drewN ?_ _ | refine blk_drew ?_ | refine blk_alloc ?_ _)); refine blk_put (cs := #[.string t249, .string t250, .string (⟨#[]⟩ : ByteArray)]) ?_ 2 _ rfl; (with_reducible repeat (first | refine blk_drewN ?_ _ | refine blk_drew ?_ | refine blk_alloc ?_ _)); refine blk_put (cs := #[.string t249, .string (⟨#[]⟩ : ByteArray), .string (⟨#[]⟩ : ByteArray)]) ?_ 1 _ rfl; (with_reducible repeat (first | refine blk_drewN ?_ _ | refine blk_drew ?_ | refine blk_alloc ?_ _)); refine blk_put (cs := #[.string (⟨#[]⟩ : ByteArray), .string (⟨#[]⟩ : ByteArray), .string (⟨#[]⟩ : ByteArray)]) ?_ 0 _ rfl; (with_reducible repeat (first | refine blk_drewN ?_ _ | refine blk_drew ?_ | refine blk_alloc ?_ _)); exact BK245.out) Tryd.underlying100 rfl (by kernel_rfl)) rfl ?_
   exact ⟨by first | rfl | (simp [errW_none, errW_some] <;> rfl) | (simp [*, errW_none, errW_some] <;> rfl), by repeat (first | (with_reducible first | exact HB.out | apply below_alloc | apply pw_below_drewN | apply below_drew1 | refine below_set ?_ GE245.out | refine below_set ?_ GE252.out) | exact HB.out)⟩
 ·
  replace c4 := Bool.eq_false_iff.mpr c4
  subst c4
  have H1 : ((impl_JidRight.f k (⟨#[]⟩ : ByteArray) t246 t247).bind fun t256 => (if t256 = true then ((impl_Jid_text.f (⟨#[]⟩ : ByteArray) t246 t247).bind fun t257 => (some ((⟨#[]⟩ : ByteArray), t246, t247, (t257.toList == a0.toList)))) else (some ((⟨#[]⟩ : ByteArray), t246, t247, false)))) = some (r1, r2, r3, r4) := by rw [if_neg (show ¬ (false = true) by decide)] at H; exact H
  clear H
  have H := H1
  clear H1
  replace H := Option.bind_eq_some_iff.mp H
  obtain ⟨t256, A290, H⟩ := H
  replace H : (if t256 = true then ((impl_Jid_text.f (⟨#[]⟩ : ByteArray) t246 t247).bind fun t257 => (some ((⟨#[]⟩ : ByteArray), t246, t247, (t257.toList == a0.toList)))) else (some ((⟨#[]⟩ : ByteArray), t246, t247, false))) = some (r1, r2, r3, r4) := H
  have A29 := Aside0.mk A290
  clear A290
  by_cases c30 : t256 = true
  ·
   subst c30
   have H1 : ((impl_Jid_text.f (⟨#[]⟩ : ByteArray) t246 t247).bind fun t257 => (some ((⟨#[]⟩ : ByteArray), t246, t247, (t257.toList == a0.toList)))) = some (r1, r2, r3, r4) := by rw [if_pos rfl] at H; exact H
   clear H
   have H := H1
   clear H1
   replace H := Option.bind_eq_some_iff.mp H
   obtain ⟨t257, A310, H⟩ := H
   replace H : (some ((⟨#[]⟩ : ByteArray), t246, t247, (t257.toList == a0.toList))) = some (r1, r2, r3, r4) := H
   have A31 := Aside0.mk A310
   clear A310
   simp only [Option.some.injEq, Prod.mk.injEq] at H
   obtain ⟨rfl, rfl, rfl, rfl⟩ := H
   go_enter Tryd.func72, Tryd.ntmps72
   try go_wp2_with (first | ((with_reducible refine gate_dst (N := 2) rfl ?_); refine box_event ?hg (N := 2) ?hd (cs := #[.string (⟨#[]⟩ : ByteArray), .string (⟨#[]⟩ : ByteArray), .string (⟨#[]⟩ : ByteArray)]) (t := 100) ?hr ?_; (case hd => rfl); (case hg => rfl); (case hr => first | (go_simp; done) | (go_simp; rfl)); intro gb245 hg w32 hbox hb; have n0_ := Aside0.mk (below_step zb0_8 hb); have n1_ := Aside0.mk (hbox); have n2_ := Aside0.mk ((zb1_8 : w.heap.size ≤ gb245)); have n3_ := Aside0.mk ((zb1_8 : w.heap.size ≤ gb245)); clear HB; have HB := n0_; have BK245 := n1_; have GW245 := n2_; have GE245 := n3_; clear n0_ n1_ n2_ n3_; clear hb hbox hg) | ((with_reducible refine gate_callee (f := 82) rfl ?_); refine goesL_ (some 13) rfl rfl Tryd.func82 (by kernel_rfl) rfl #[.string a0, .string (⟨#[47]⟩ : ByteArray)] rfl zb2_8 ?_; (with_reducible refine (strings_Cut.calls a0 (⟨#[47]⟩ : ByteArray) t246 t247 t248 _ A2.out zb3_8).mono ?_); rintro e w' ⟨rfl, ⟨nd, rfl⟩⟩; refine ⟨_, rfl, ?_⟩; (try (rw [drewN_self w32]; generalize hq_ : World.drewN w32 _ = w32; have n0_ : Aside0 (w32.heap[gb245]? = some (.cells #[.string (⟨#[]⟩ : ByteArray), .string (⟨#[]⟩ : ByteArray), .string (⟨#[]⟩ : ByteArray)] 100 (0, 0))) := ⟨by rw [← hq_]; exact zb4_8⟩; have n1_ : Aside0 (Below w.heap.size w w32) := ⟨by rw [← hq_]; exact zb5_8⟩; clear BK245 HB hq_; have BK245 := n0_; have HB := n1_; clear n0_ n1_))) | ((with_reducible refine gate_callee (f := 82) rfl ?_); refine goesL_ (some 19) rfl rfl Tryd.func82 (by kernel_rfl) rfl #[.string t246, .string (⟨#[64]⟩ : ByteArray)] rfl zb2_8 ?_; (with_reducible refine (strings_Cut.calls t246 (⟨#[64]⟩ : ByteArray) t249 t250 false _ A3.out zb3_8).mono ?_); rintro e w' ⟨rfl, ⟨nd, rfl⟩⟩; refine ⟨_, rfl, ?_⟩; (try (rw [drewN_self w32]; generalize hq_ : World.drewN w32 _ = w32; have n0_ : Aside0 (w32.heap[gb245]? = some (.cells #[.string (⟨#[]⟩ : ByteArray), .string (⟨#[]⟩ : ByteArray), .string (⟨#[]⟩ : ByteArray)] 100 (0, 0))) := ⟨by rw [← hq_]; exact zb4_8⟩; have n1_ : Aside0 (Below w.heap.size w w32) := ⟨by rw [← hq_]; exact zb5_8⟩; clear BK245 HB hq_; have BK245 := n0_; have HB := n1_; clear n0_ n1_))) | ((with_reducible refine gate_dst (N := 10) rfl ?_); refine box_event ?hg (N := 10) ?hd (cs := #[.string (⟨#[]⟩ : ByteArray), .string (⟨#[]⟩ : ByteArray), .string (⟨#[]⟩ : ByteArray)]) (t := 100) ?hr ?_; (case hd => rfl); (case hg => rfl); (case hr => first | (go_simp; done) | (go_simp; rfl)); intro gb255 hg w33 hbox hb; have n0_ := Aside0.mk (blk_below (g := gb245) (o := .cells #[.string (⟨#[]⟩ : ByteArray), .string (⟨#[]⟩ : ByteArray), .string (⟨#[]⟩ : ByteArray)] 100 (0, 0)) zb4_8 hb); have n1_ := Aside0.mk (below_step zb5_8 hb); have n2_ := Aside0.mk (hbox); have n3_ := Aside0.mk ((zb6_8 : w.heap.size ≤ gb255)); have n4_ := Aside0.mk ((zb6_8 : w.heap.size ≤ gb255)); have n5_ := Aside0.mk ((zb7_8 : gb245 ≠ gb255)); have n6_ := Aside0.mk ((zb8_8 : gb255 ≠ gb245)); clear BK245; clear HB; have BK245 := n0_; have HB := n1_; have BK255 := n2_; have GW255 := n3_; have GE255 := n4_; have NB245_255 := n5_; have NB255_245 := n6_; clear n0_ n1_ n2_ n3_ n4_ n5_ n6_; clear hb hbox hg; have hnb34 := NB255_245.out; have hnc34 := NB245_255.out; have hcz35_0 := bcq_8 BK255.out 0; have hcz35_1 := bcq_8 BK255.out 1; have hcz35_2 := bcq_8 BK255.out 2; have hfz35_0 := blk_frozen BK255.out 0; have hfz35_1 := blk_frozen BK255.out 1; have hfz35_2 := blk_frozen BK255.out 2))
   have n0_ : Aside0 ((((w33.setCell ⟨gb255, 0, none⟩ (.string (⟨#[]⟩ : ByteArray))).setCell ⟨gb255, 1, none⟩ (.string t246)).setCell ⟨gb255, 2, none⟩ (.string t247)).heap[gb245]? = some (.cells #[.string (⟨#[]⟩ : ByteArray), .string (⟨#[]⟩ : ByteArray), .string (⟨#[]⟩ : ByteArray)] 100 (0, 0))) := ⟨by (with_reducible repeat (first | refine blk_drewN ?_ _ | refine blk_drew ?_ | refine blk_alloc ?_ _)); refine blk_far ?_ NB245_255.out _; (with_reducible repeat (first | refine blk_drewN ?_ _ | refine blk_drew ?_ | refine blk_alloc ?_ _)); refine blk_far ?_ NB245_255.out _; (with_reducible repeat (first | refine blk_drewN ?_ _ | refine blk_drew ?_ | refine blk_alloc ?_ _)); refine blk_far ?_ NB245_255.out _; (with_reducible repeat (first | refine blk_drewN ?_ _ | refine blk_drew ?_ | refine blk_alloc ?_ _)); exact BK245.out⟩
   have n1_ : Aside0 ((((w33.setCell ⟨gb255, 0, none⟩ (.string (⟨#[]⟩ : ByteArray))).setCell ⟨gb255, 1, none⟩ (.string t246)).setCell ⟨gb255, 2, none⟩ (.string t247)).heap[gb255]? = some (.cells #[.string (⟨#[]⟩ : ByteArray), .string t246, .string t247] 100 (0, 0))) := ⟨by (with_reducible repeat (first | refine blk_drewN ?_ _ | refine blk_drew ?_ | refine blk_alloc ?_ _)); refine blk_put (cs := #[.string (⟨#[]⟩ : ByteArray), .string t246, .string (⟨#[]⟩ : ByteArray)]) ?_ 2 _ rfl; (with_reducible repeat (first | refine blk_drewN ?_ _ | refine blk_drew ?_ | refine blk_alloc ?_ _)); refine blk_put (cs := #[.string (⟨#[]⟩ : ByteArray), .string (⟨#[]⟩ : ByteArray), .string (⟨#[]⟩ : ByteArray)]) ?_ 1 _ rfl; (with_reducible repeat (first | refine blk_drewN ?_ _ | refine blk_drew ?_ | refine blk_alloc ?_ _)); refine blk_put (cs := #[.string (⟨#[]⟩ : ByteArray), .string (⟨#[]⟩ : ByteArray), .string (⟨#[]⟩ : ByteArray)]) ?_ 0 _ rfl; (with_reducible repeat (first | refine blk_drewN ?_ _ | refine blk_drew ?_ | refine blk_alloc ?_ _)); exact BK255.out⟩
   have n2_ : Aside0 (Below w.heap.size w (((w33.setCell ⟨gb255, 0, none⟩ (.string (⟨#[]⟩ : ByteArray))).setCell ⟨gb255, 1, none⟩ (.string t246)).setCell ⟨gb255, 2, none⟩ (.string t247))) := ⟨by repeat (first | (with_reducible first | exact HB.out | apply below_alloc | apply pw_below_drewN | apply below_drew1 | refine below_set ?_ GE245.out | refine below_set ?_ GE255.out) | exact HB.out)⟩
   (try clear BK245)
   (try clear BK255)
   (try clear HB)
   generalize (((w33.setCell ⟨gb255, 0, none⟩ (.string (⟨#[]⟩ : ByteArray))).setCell ⟨gb255, 1, none⟩ (.string t246)).setCell ⟨gb255, 2, none⟩ (.string t247)) = w36 at n0_ n1_ n2_ ⊢
   have BK245 := n0_
   have BK255 := n1_
   have HB := n2_
   clear n0_ n1_ n2_
   have n0_ := Aside0.mk (blk_drew BK245.out)
   have n1_ := Aside0.mk (blk_drew BK255.out)
   have n2_ := Aside0.mk (below_drew1 HB.out)
   clear BK245
   clear BK255
   clear HB
   have BK245 := n0_
   have BK255 := n1_
   have HB := n2_
   clear n0_ n1_ n2_
   refine start_ (n := 11) (S := fun w' => w'.cell? ⟨gb255, 0, none⟩ = some (.string (⟨#[]⟩ : ByteArray)) ∧ w'.cell? ⟨gb255, 1, none⟩ = some (.string t246) ∧ w'.cell? ⟨gb255, 2, none⟩ = some (.string t247)) (ds := []) zm0_8 (by kernel_rfl) rfl rfl ⟨(blk_cell BK255.out 0).trans rfl, (blk_cell BK255.out 1).trans rfl, (blk_cell BK255.out 2).trans rfl⟩ (fun hHeld => ?_); refine with_tabW impl_readJid.tab6 impl_readJid.bits6 (fun HT_ HW_ => ?_)
   generalize w36.drew = w37 at BK245 BK255 HB hHeld ⊢
   refine take_ (i := 0) (N := some 30) (v := ?_) (a' := ?_) zm1_8 rfl rfl (take_ofW HT_.out HW_.out (by kernel_rfl)) (fun _ _ _ h => h) (Or.inl ⟨by rfl, ?_⟩) hHeld ?_ ?_
   rotate_left
   ·
    rintro w' ⟨s0, s1, s2⟩
    go_simp
    with_reducible rfl
   rotate_left
   ·
    simp only [Act.put, List.setIfInBounds_toArray, List.set_cons_zero, List.set_cons_succ, i64_w, i32_w]
    rfl
   refine take_ (i := 1) (N := some 31) (v := ?_) (a' := ?_) zm2_8 rfl rfl (take_ofW HT_.out HW_.out (by kernel_rfl)) (fun _ _ _ h => h) (Or.inl ⟨by rfl, ?_⟩) hHeld ?_ ?_
   rotate_left
   ·
    rintro w' ⟨s0, s1, s2⟩
    go_simp
    with_reducible rfl
   rotate_left
   ·
    simp only [Act.put, List.setIfInBounds_toArray, List.set_cons_zero, List.set_cons_succ, i64_w, i32_w]
    rfl
   refine one_ (i := 2) (N := some 32) zm3_8 rfl rfl (one_of HT_.out (by kernel_rfl)) (by decide) (fun K hK => ?_)
   refine goes_ Tryd.func83 (by kernel_rfl) rfl #[.agg #[.string (⟨#[]⟩ : ByteArray), .string t246, .string t247]] (by rfl) rfl rfl zb2_8 ?_
   with_reducible refine (impl_JidRight.calls k (⟨#[]⟩ : ByteArray) t246 t247 true _ A29.out zb3_8).mono ?_
   rintro e w38 ⟨rfl, hb⟩
   refine ⟨_, rfl, ?_⟩
   have n0_ := Aside0.mk (blk_below (g := gb245) (o := .cells #[.string (⟨#[]⟩ : ByteArray), .string (⟨#[]⟩ : ByteArray), .string (⟨#[]⟩ : ByteArray)] 100 (0, 0)) zb4_8 hb)
   have n1_ := Aside0.mk (blk_below (g := gb255) (o := .cells #[.string (⟨#[]⟩ : ByteArray), .string t246, .string t247] 100 (0, 0)) zb11_8 hb)
   have n2_ := Aside0.mk (below_step zb12_8 hb)
   clear BK245
   clear BK255
   clear HB
   have BK245 := n0_
   have BK255 := n1_
   have HB := n2_
   clear n0_ n1_ n2_
   (try clear hb)
   (try clear hb2)
   (try clear hk)
   (try clear hi)
   refine hK.out _ _ ⟨(blk_cell BK255.out 0).trans rfl, (blk_cell BK255.out 1).trans rfl, (blk_cell BK255.out 2).trans rfl⟩ (fun hHeld => ?_)
   clear hK K
   refine norm_ (a' := ?_) ?_ ?_
   rotate_left
   ·
    show Act.put _ (some 32) _ = _
    simp only [Act.put, List.setIfInBounds_toArray, List.set_cons_zero, List.set_cons_succ, i64_w, i32_w]
    rfl
   refine zp_8 3 (some 33) zm4_8 HT_ ?_
   refine zp_8 6 (some 36) zm5_8 HT_ ?_
   refine take_ (i := 4) (N := some 34) (v := ?_) (a' := ?_) zm6_8 rfl rfl (take_ofW HT_.out HW_.out (by kernel_rfl)) (fun _ _ _ h => h) (Or.inl ⟨by rfl, ?_⟩) hHeld ?_ ?_
   rotate_left
   ·
    rintro w' ⟨s0, s1, s2⟩
    go_simp
    with_reducible rfl
   rotate_left
   ·
    simp only [Act.put, List.setIfInBounds_toArray, List.set_cons_zero, List.set_cons_succ, i64_w, i32_w]
    rfl
   refine one_ (i := 5) (N := some 35) zm7_8 rfl rfl (one_of HT_.out (by kernel_rfl)) (by decide) (fun K hK => ?_)
   refine goes_ Tryd.func84 (by kernel_rfl) rfl #[.agg #[.string (⟨#[]⟩ : ByteArray), .string t246, .string t247]] (by rfl) rfl rfl zb2_8 ?_
   with_reducible refine (impl_Jid_text.calls (⟨#[]⟩ : ByteArray) t246 t247 t257 _ A31.out).mono ?_
   rintro e w39 ⟨rfl, hb⟩
   refine ⟨_, rfl, ?_⟩
   have n0_ := Aside0.mk (blk_below (g := gb245) (o := .cells #[.string (⟨#[]⟩ : ByteArray), .string (⟨#[]⟩ : ByteArray), .string (⟨#[]⟩ : ByteArray)] 100 (0, 0)) zb4_8 hb)
   have n1_ := Aside0.mk (blk_below (g := gb255) (o := .cells #[.string (⟨#[]⟩ : ByteArray), .string t246, .string t247] 100 (0, 0)) zb11_8 hb)
   have n2_ := Aside0.mk (below_step zb12_8 hb)
   clear BK245
   clear BK255
   clear HB
   have BK245 := n0_
   have BK255 := n1_
   have HB := n2_
   clear n0_ n1_ n2_
   (try clear hb)
   (try clear hb2)
   (try clear hk)
   (try clear hi)
   refine hK.out _ _ ⟨(blk_cell BK255.out 0).trans rfl, (blk_cell BK255.out 1).trans rfl, (blk_cell BK255.out 2).trans rfl⟩ (fun hHeld => ?_)
   clear hK K
   refine norm_ (a' := ?_) ?_ ?_
   rotate_left
   ·
    show Act.put _ (some 35) _ = _
    simp only [Act.put, List.setIfInBounds_toArray, List.set_cons_zero, List.set_cons_succ, i64_w, i32_w]
    rfl
   refine zp_8 7 (some 37) zm8_8 HT_ ?_
   refine zp_8 8 (some 38) zm9_8 HT_ ?_
   refine one_ (i := 9) (N := none) zm10_8 rfl rfl (one_of HT_.out (by kernel_rfl)) (by decide) (fun K hK => ?_)
   have hs40 : w39.cell? ⟨gb245, 0, none⟩ = some (.string (⟨#[]⟩ : ByteArray)) := (blk_cell BK245.out 0).trans rfl
   have hfs40 := blk_frozen BK245.out 0
   have hns40_1 := NB255_245.out
   have hms40_1 := NB245_255.out
   have hs41 : w39.cell? ⟨gb245, 1, none⟩ = some (.string (⟨#[]⟩ : ByteArray)) := (blk_cell BK245.out 1).trans rfl
   have hfs41 := blk_frozen BK245.out 1
   have hns41_1 := NB255_245.out
   have hms41_1 := NB245_255.out
   have hs42 : w39.cell? ⟨gb245, 2, none⟩ = some (.string (⟨#[]⟩ : ByteArray)) := (blk_cell BK245.out 2).trans rfl
   have hfs42 := blk_frozen BK245.out 2
   have hns42_1 := NB255_245.out
   have hms42_1 := NB245_255.out
   refine skip_ (w1 := ?_) (by rfl) rfl ?_ ?_
   rotate_left
   ·
    go_simp
    rfl
   refine hK.out _ _ ⟨((cell_far (p := ⟨gb245, _, none⟩) NB255_245.out _).trans (((cell_far (p := ⟨gb245, _, none⟩) NB255_245.out _).trans (((cell_far (p := ⟨gb245, _, none⟩) NB255_245.out _).trans (hHeld.1)))))), ((cell_far (p := ⟨gb245, _, none⟩) NB255_245.out _).trans (((cell_far (p := ⟨gb245, _, none⟩) NB255_245.out _).trans (((cell_far (p := ⟨gb245, _, none⟩) NB255_245.out _).trans (hHeld.2.1)))))), ((cell_far (p := ⟨gb245, _, none⟩) NB255_245.out _).trans (((cell_far (p := ⟨gb245, _, none⟩) NB255_245.out _).trans (((cell_far (p := ⟨gb245, _, none⟩) NB255_245.out _).trans (hHeld.2.2))))))⟩ (fun hHeld => ?_)
   clear hK K
   refine zp_8 10 (some 3) zm11_8 HT_ ?_
   refine done_ (done_of HT_.out (by kernel_rfl)) ?_
   try go_wp2
   refine bodyPost_ret (results_ct rfl _ _ gb245 100 #[.string (⟨#[]⟩ : ByteArray), .string t246, .string t247] (0, 0) _ rfl (by (with_reducible repeat (first | refine blk_drewN ?_ _ | refine blk_drew ?_ | refine blk_alloc ?_ _)); refine blk_put (cs := #[.string (⟨#[]⟩ : ByteArray), .string t246, .string (⟨#[]⟩ : ByteArray)]) ?_ 2 _ rfl; (with_reducible repeat (first | refine blk_drewN ?_ _ | refine blk_drew ?_ | refine blk_alloc ?_ _)); refine blk_put (cs := #[.string (⟨#[]⟩ : ByteArray), .string (⟨#[]⟩ : ByteArray), .string (⟨#[]⟩ : ByteArray)]) ?_ 1 _ rfl; (with_reducible repeat (first | refine blk_drewN ?_ _ | refine blk_drew ?_ | refine blk_alloc ?_ _)); refine blk_put (cs := #[.string (⟨#[]⟩ : ByteArray), .string (⟨#[]⟩ : ByteArray), .string (⟨#[]⟩ : ByteArray)]) ?_ 0 _ rfl; (with_reducible repeat (first | refine blk_drewN ?_ _ | refine blk_drew ?_ | refine blk_alloc ?_ _)); exact BK245.out) Tryd.underlying100 rfl (by kernel_rfl)) rfl ?_
   exact ⟨by first | rfl | (simp [errW_none, errW_some] <;> rfl) | (simp [*, errW_none, errW_some] <;> rfl), by repeat (first | (with_reducible first | exact HB.out | apply below_alloc | apply pw_below_drewN | apply below_drew1 | refine below_set ?_ GE245.out | refine below_set ?_ GE255.out) | exact HB.out)⟩
  ·
   replace c30 := Bool.eq_false_iff.mpr c30
   subst c30
   have H1 : (some ((⟨#[]⟩ : ByteArray), t246, t247, false)) = some (r1, r2, r3, r4) := by rw [if_neg (show ¬ (false = true) by decide)] at H; exact H
   clear H
   have H := H1
   clear H1
   simp only [Option.some.injEq, Prod.mk.injEq] at H
   obtain ⟨rfl, rfl, rfl, rfl⟩ := H
   go_enter Tryd.func72, Tryd.ntmps72
   try go_wp2_with (first | ((with_reducible refine gate_dst (N := 2) rfl ?_); refine box_event ?hg (N := 2) ?hd (cs := #[.string (⟨#[]⟩ : ByteArray), .string (⟨#[]⟩ : ByteArray), .string (⟨#[]⟩ : ByteArray)]) (t := 100) ?hr ?_; (case hd => rfl); (case hg => rfl); (case hr => first | (go_simp; done) | (go_simp; rfl)); intro gb245 hg w43 hbox hb; have n0_ := Aside0.mk (below_step zb0_8 hb); have n1_ := Aside0.mk (hbox); have n2_ := Aside0.mk ((zb1_8 : w.heap.size ≤ gb245)); have n3_ := Aside0.mk ((zb1_8 : w.heap.size ≤ gb245)); clear HB; have HB := n0_; have BK245 := n1_; have GW245 := n2_; have GE245 := n3_; clear n0_ n1_ n2_ n3_; clear hb hbox hg) | ((with_reducible refine gate_callee (f := 82) rfl ?_); refine goesL_ (some 13) rfl rfl Tryd.func82 (by kernel_rfl) rfl #[.string a0, .string (⟨#[47]⟩ : ByteArray)] rfl zb2_8 ?_; (with_reducible refine (strings_Cut.calls a0 (⟨#[47]⟩ : ByteArray) t246 t247 t248 _ A2.out zb3_8).mono ?_); rintro e w' ⟨rfl, ⟨nd, rfl⟩⟩; refine ⟨_, rfl, ?_⟩; (try (rw [drewN_self w43]; generalize hq_ : World.drewN w43 _ = w43; have n0_ : Aside0 (w43.heap[gb245]? = some (.cells #[.string (⟨#[]⟩ : ByteArray), .string (⟨#[]⟩ : ByteArray), .string (⟨#[]⟩ : ByteArray)] 100 (0, 0))) := ⟨by rw [← hq_]; exact zb4_8⟩; have n1_ : Aside0 (Below w.heap.size w w43) := ⟨by rw [← hq_]; exact zb5_8⟩; clear BK245 HB hq_; have BK245 := n0_; have HB := n1_; clear n0_ n1_))) | ((with_reducible refine gate_callee (f := 82) rfl ?_); refine goesL_ (some 19) rfl rfl Tryd.func82 (by kernel_rfl) rfl #[.string t246, .string (⟨#[64]⟩ : ByteArray)] rfl zb2_8 ?_; (with_reducible refine (strings_Cut.calls t246 (⟨#[64]⟩ : ByteArray) t249 t250 false _ A3.out zb3_8).mono ?_); rintro e w' ⟨rfl, ⟨nd, rfl⟩⟩; refine ⟨_, rfl, ?_⟩; (try (rw [drewN_self w43]; generalize hq_ : World.drewN w43 _ = w43; have n0_ : Aside0 (w43.heap[gb245]? = some (.cells #[.string (⟨#[]⟩ : ByteArray), .string (⟨#[]⟩ : ByteArray), .string (⟨#[]⟩ : ByteArray)] 100 (0, 0))) := ⟨by rw [← hq_]; exact zb4_8⟩; have n1_ : Aside0 (Below w.heap.size w w43) := ⟨by rw [← hq_]; exact zb5_8⟩; clear BK245 HB hq_; have BK245 := n0_; have HB := n1_; clear n0_ n1_))) | ((with_reducible refine gate_dst (N := 10) rfl ?_); refine box_event ?hg (N := 10) ?hd (cs := #[.string (⟨#[]⟩ : ByteArray), .string (⟨#[]⟩ : ByteArray), .string (⟨#[]⟩ : ByteArray)]) (t := 100) ?hr ?_; (case hd => rfl); (case hg => rfl); (case hr => first | (go_simp; done) | (go_simp; rfl)); intro gb255 hg w44 hbox hb; have n0_ := Aside0.mk (blk_below (g := gb245) (o := .cells #[.string (⟨#[]⟩ : ByteArray), .string (⟨#[]⟩ : ByteArray), .string (⟨#[]⟩ : ByteArray)] 100 (0, 0)) zb4_8 hb); have n1_ := Aside0.mk (below_step zb5_8 hb); have n2_ := Aside0.mk (hbox); have n3_ := Aside0.mk ((zb6_8 : w.heap.size ≤ gb255)); have n4_ := Aside0.mk ((zb6_8 : w.heap.size ≤ gb255)); have n5_ := Aside0.mk ((zb7_8 : gb245 ≠ gb255)); have n6_ := Aside0.mk ((zb8_8 : gb255 ≠ gb245)); clear BK245; clear HB; have BK245 := n0_; have HB := n1_; have BK255 := n2_; have GW255 := n3_; have GE255 := n4_; have NB245_255 := n5_; have NB255_245 := n6_; clear n0_ n1_ n2_ n3_ n4_ n5_ n6_; clear hb hbox hg; have hnb45 := NB255_245.out; have hnc45 := NB245_255.out; have hcz46_0 := bcq_8 BK255.out 0; have hcz46_1 := bcq_8 BK255.out 1; have hcz46_2 := bcq_8 BK255.out 2; have hfz46_0 := blk_frozen BK255.out 0; have hfz46_1 := blk_frozen BK255.out 1; have hfz46_2 := blk_frozen BK255.out 2))
   have n0_ : Aside0 ((((w44.setCell ⟨gb255, 0, none⟩ (.string (⟨#[]⟩ : ByteArray))).setCell ⟨gb255, 1, none⟩ (.string t246)).setCell ⟨gb255, 2, none⟩ (.string t247)).heap[gb245]? = some (.cells #[.string (⟨#[]⟩ : ByteArray), .string (⟨#[]⟩ : ByteArray), .string (⟨#[]⟩ : ByteArray)] 100 (0, 0))) := ⟨by (with_reducible repeat (first | refine blk_drewN ?_ _ | refine blk_drew ?_ | refine blk_alloc ?_ _)); refine blk_far ?_ NB245_255.out _; (with_reducible repeat (first | refine blk_drewN ?_ _ | refine blk_drew ?_ | refine blk_alloc ?_ _)); refine blk_far ?_ NB245_255.out _; (with_reducible repeat (first | refine blk_drewN ?_ _ | refine blk_drew ?_ | refine blk_alloc ?_ _)); refine blk_far ?_ NB245_255.out _; (with_reducible repeat (first | refine blk_drewN ?_ _ | refine blk_drew ?_ | refine blk_alloc ?_ _)); exact BK245.out⟩
   have n1_ : Aside0 ((((w44.setCell ⟨gb255, 0, none⟩ (.string (⟨#[]⟩ : ByteArray))).setCell ⟨gb255, 1, none⟩ (.string t246)).setCell ⟨gb255, 2, none⟩ (.string t247)).heap[gb255]? = some (.cells #[.string (⟨#[]⟩ : ByteArray), .string t246, .string t247] 100 (0, 0))) := ⟨by (with_reducible repeat (first | refine blk_drewN ?_ _ | refine blk_drew ?_ | refine blk_alloc ?_ _)); refine blk_put (cs := #[.string (⟨#[]⟩ : ByteArray), .string t246, .string (⟨#[]⟩ : ByteArray)]) ?_ 2 _ rfl; (with_reducible repeat (first | refine blk_drewN ?_ _ | refine blk_drew ?_ | refine blk_alloc ?_ _)); refine blk_put (cs := #[.string (⟨#[]⟩ : ByteArray), .string (⟨#[]⟩ : ByteArray), .string (⟨#[]⟩ : ByteArray)]) ?_ 1 _ rfl; (with_reducible repeat (first | refine blk_drewN ?_ _ | refine blk_drew ?_ | refine blk_alloc ?_ _)); refine blk_put (cs := #[.string (⟨#[]⟩ : ByteArray), .string (⟨#[]⟩ : ByteArray), .string (⟨#[]⟩ : ByteArray)]) ?_ 0 _ rfl; (with_reducible repeat (first | refine blk_drewN ?_ _ | refine blk_drew ?_ | refine blk_alloc ?_ _)); exact BK255.out⟩
   have n2_ : Aside0 (Below w.heap.size w (((w44.setCell ⟨gb255, 0, none⟩ (.string (⟨#[]⟩ : ByteArray))).setCell ⟨gb255, 1, none⟩ (.string t246)).setCell ⟨gb255, 2, none⟩ (.string t247))) := ⟨by repeat (first | (with_reducible first | exact HB.out | apply below_alloc | apply pw_below_drewN | apply below_drew1 | refine below_set ?_ GE245.out | refine below_set ?_ GE255.out) | exact HB.out)⟩
   (try clear BK245)
   (try clear BK255)
   (try clear HB)
   generalize (((w44.setCell ⟨gb255, 0, none⟩ (.string (⟨#[]⟩ : ByteArray))).setCell ⟨gb255, 1, none⟩ (.string t246)).setCell ⟨gb255, 2, none⟩ (.string t247)) = w47 at n0_ n1_ n2_ ⊢
   have BK245 := n0_
   have BK255 := n1_
   have HB := n2_
   clear n0_ n1_ n2_
   have n0_ := Aside0.mk (blk_drew BK245.out)
   have n1_ := Aside0.mk (blk_drew BK255.out)
   have n2_ := Aside0.mk (below_drew1 HB.out)
   clear BK245
   clear BK255
   clear HB
   have BK245 := n0_
   have BK255 := n1_
   have HB := n2_
   clear n0_ n1_ n2_
   refine start_ (n := 11) (S := fun w' => w'.cell? ⟨gb255, 0, none⟩ = some (.string (⟨#[]⟩ : ByteArray)) ∧ w'.cell? ⟨gb255, 1, none⟩ = some (.string t246) ∧ w'.cell? ⟨gb255, 2, none⟩ = some (.string t247)) (ds := []) zm0_8 (by kernel_rfl) rfl rfl ⟨(blk_cell BK255.out 0).trans rfl, (blk_cell BK255.out 1).trans rfl, (blk_cell BK255.out 2).trans rfl⟩ (fun hHeld => ?_); refine with_tabW impl_readJid.tab6 impl_readJid.bits6 (fun HT_ HW_ => ?_)
   generalize w47.drew = w48 at BK245 BK255 HB hHeld ⊢
   refine take_ (i := 0) (N := some 30) (v := ?_) (a' := ?_) zm1_8 rfl rfl (take_ofW HT_.out HW_.out (by kernel_rfl)) (fun _ _ _ h => h) (Or.inl ⟨by rfl, ?_⟩) hHeld ?_ ?_
   rotate_left
   ·
    rintro w' ⟨s0, s1, s2⟩
    go_simp
    with_reducible rfl
   rotate_left
   ·
    simp only [Act.put, List.setIfInBounds_toArray, List.set_cons_zero, List.set_cons_succ, i64_w, i32_w]
    rfl
   refine take_ (i := 1) (N := some 31) (v := ?_) (a' := ?_) zm2_8 rfl rfl (take_ofW HT_.out HW_.out (by kernel_rfl)) (fun _ _ _ h => h) (Or.inl ⟨by rfl, ?_⟩) hHeld ?_ ?_
   rotate_left
   ·
    rintro w' ⟨s0, s1, s2⟩
    go_simp
    with_reducible rfl
   rotate_left
   ·
    simp only [Act.put, List.setIfInBounds_toArray, List.set_cons_zero, List.set_cons_succ, i64_w, i32_w]
    rfl
   refine one_ (i := 2) (N := some 32) zm3_8 rfl rfl (one_of HT_.out (by kernel_rfl)) (by decide) (fun K hK => ?_)
   refine goes_ Tryd.func83 (by kernel_rfl) rfl #[.agg #[.string (⟨#[]⟩ : ByteArray), .string t246, .string t247]] (by rfl) rfl rfl zb2_8 ?_
   with_reducible refine (impl_JidRight.calls k (⟨#[]⟩ : ByteArray) t246 t247 false _ A29.out zb3_8).mono ?_
   rintro e w49 ⟨rfl, hb⟩
   refine ⟨_, rfl, ?_⟩
   have n0_ := Aside0.mk (blk_below (g := gb245) (o := .cells #[.string (⟨#[]⟩ : ByteArray), .string (⟨#[]⟩ : ByteArray), .string (⟨#[]⟩ : ByteArray)] 100 (0, 0)) zb4_8 hb)
   have n1_ := Aside0.mk (blk_below (g := gb255) (o := .cells #[.string (⟨#[]⟩ : ByteArray), .string t246, .string t247] 100 (0, 0)) zb11_8 hb)
   have n2_ := Aside0.mk (below_step zb12_8 hb)
   clear BK245
   clear BK255
   clear HB
   have BK245 := n0_
   have BK255 := n1_
   have HB := n2_
   clear n0_ n1_ n2_
   (try clear hb)
   (try clear hb2)
   (try clear hk)
   (try clear hi)
   refine hK.out _ _ ⟨(blk_cell BK255.out 0).trans rfl, (blk_cell BK255.out 1).trans rfl, (blk_cell BK255.out 2).trans rfl⟩ (fun hHeld => ?_)
   clear hK K
   refine norm_ (a' := ?_) ?_ ?_
   rotate_left
   ·
    show Act.put _ (some 32) _ = _
    simp only [Act.put, List.setIfInBounds_toArray, List.set_cons_zero, List.set_cons_succ, i64_w, i32_w]
    rfl
   refine zp_8 3 (some 33) zm4_8 HT_ ?_
   refine zu_8 4 (some 34) zm12_8 HT_ ?_
   refine zu_8 5 (some 35) zm13_8 HT_ ?_
   refine zu_8 6 (some 36) zm7_8 HT_ ?_
   refine zu_8 7 (some 37) zm8_8 HT_ ?_
   refine zp_8 8 (some 38) zm9_8 HT_ ?_
   refine one_ (i := 9) (N := none) zm10_8 rfl rfl (one_of HT_.out (by kernel_rfl)) (by decide) (fun K hK => ?_)
   have hs50 : w49.cell? ⟨gb245, 0, none⟩ = some (.string (⟨#[]⟩ : ByteArray)) := (blk_cell BK245.out 0).trans rfl
   have hfs50 := blk_frozen BK245.out 0
   have hns50_1 := NB255_245.out
   have hms50_1 := NB245_255.out
   have hs51 : w49.cell? ⟨gb245, 1, none⟩ = some (.string (⟨#[]⟩ : ByteArray)) := (blk_cell BK245.out 1).trans rfl
   have hfs51 := blk_frozen BK245.out 1
   have hns51_1 := NB255_245.out
   have hms51_1 := NB245_255.out
   have hs52 : w49.cell? ⟨gb245, 2, none⟩ = some (.string (⟨#[]⟩ : ByteArray)) := (blk_cell BK245.out 2).trans rfl
   have hfs52 := blk_frozen BK245.out 2
   have hns52_1 := NB255_245.out
   have hms52_1 := NB245_255.out
   refine skip_ (w1 := ?_) (by rfl) rfl ?_ ?_
   rotate_left
   ·
    go_simp
    rfl
   refine hK.out _ _ ⟨((cell_far (p := ⟨gb245, _, none⟩) NB255_245.out _).trans (((cell_far (p := ⟨gb245, _, none⟩) NB255_245.out _).trans (((cell_far (p := ⟨gb245, _, none⟩) NB255_245.out _).trans (hHeld.1)))))), ((cell_far (p := ⟨gb245, _, none⟩) NB255_245.out _).trans (((cell_far (p := ⟨gb245, _, none⟩) NB255_245.out _).trans (((cell_far (p := ⟨gb245, _, none⟩) NB255_245.out _).trans (hHeld.2.1)))))), ((cell_far (p := ⟨gb245, _, none⟩) NB255_245.out _).trans (((cell_far (p := ⟨gb245, _, none⟩) NB255_245.out _).trans (((cell_far (p := ⟨gb245, _, none⟩) NB255_245.out _).trans (hHeld.2.2))))))⟩ (fun hHeld => ?_)
   clear hK K
   refine zp_8 10 (some 3) zm11_8 HT_ ?_
   refine done_ (done_of HT_.out (by kernel_rfl)) ?_
   try go_wp2
   refine bodyPost_ret (results_ct rfl _ _ gb245 100 #[.string (⟨#[]⟩ : ByteArray), .string t246, .string t247] (0, 0) _ rfl (by (with_reducible repeat (first | refine blk_drewN ?_ _ | refine blk_drew ?_ | refine blk_alloc ?_ _)); refine blk_put (cs := #[.string (⟨#[]⟩ : ByteArray), .string t246, .string (⟨#[]⟩ : ByteArray)]) ?_ 2 _ rfl; (with_reducible repeat (first | refine blk_drewN ?_ _ | refine blk_drew ?_ | refine blk_alloc ?_ _)); refine blk_put (cs := #[.string (⟨#[]⟩ : ByteArray), .string (⟨#[]⟩ : ByteArray), .string (⟨#[]⟩ : ByteArray)]) ?_ 1 _ rfl; (with_reducible repeat (first | refine blk_drewN ?_ _ | refine blk_drew ?_ | refine blk_alloc ?_ _)); refine blk_put (cs := #[.string (⟨#[]⟩ : ByteArray), .string (⟨#[]⟩ : ByteArray), .string (⟨#[]⟩ : ByteArray)]) ?_ 0 _ rfl; (with_reducible repeat (first | refine blk_drewN ?_ _ | refine blk_drew ?_ | refine blk_alloc ?_ _)); exact BK245.out) Tryd.underlying100 rfl (by kernel_rfl)) rfl ?_
   exact ⟨by first | rfl | (simp [errW_none, errW_some] <;> rfl) | (simp [*, errW_none, errW_some] <;> rfl), by repeat (first | (with_reducible first | exact HB.out | apply below_alloc | apply pw_below_drewN | apply below_drew1 | refine below_set ?_ GE245.out | refine below_set ?_ GE255.out) | exact HB.out)⟩

/-! ### impl_isDomain: function 49 -/
def impl_isDomain.f (k : Nat) (a0 : ByteArray) : Option (Bool) := (impl_readJid.f k a0).bind fun bt258 => (if bt258.2.2.2 = true then (if bt258.1.toList = ([] : List UInt8) then (some (bt258.2.2.1.toList == ([] : List UInt8))) else (some false)) else (some false))
theorem impl_isDomain.mono : ∀ a0 k, LeO (impl_isDomain.f k a0) (impl_isDomain.f (k + 1) a0) := by
 intro a0 k
 unfold impl_isDomain.f
 repeat' first
   | (with_reducible exact impl_readJid.mono _ _)
   | (with_reducible exact LeO.refl _)
   | (with_reducible exact LeO.none _)
   | (with_reducible refine LeO.ite ?_ ?_)
   | (with_reducible refine LeO.bind ?_ (fun _ => ?_))
   | exact impl_readJid.mono _ _
   | exact LeO.none _
   | refine LeO.ite ?_ ?_
   | refine LeO.bind ?_ (fun _ => ?_)
set_option maxHeartbeats 8000000 in
set_option maxRecDepth 100000 in
theorem impl_isDomain.calls (k : Nat) (a0 : ByteArray) (r : Bool) (w : World) (h : impl_isDomain.f k a0 = some r) (hmx : MaxIs w) :
  Calls Tryd.prog 49 #[.string a0] w fun e w' => e = .returned (.bool r) ∧ Below w.heap.size w w' := by
 have hu100 := Tryd.underlying100
 have HB := Aside0.mk (Below.refl w.heap.size w)
 have H : ((impl_readJid.f k a0).bind fun bt258 => (if bt258.2.2.2 = true then (if bt258.1.toList = ([] : List UInt8) then (some (bt258.2.2.1.toList == ([] : List UInt8))) else (some false)) else (some false))) = some r := h
 clear h
 replace H := Option.bind_eq_some_iff.mp H
 obtain ⟨⟨t258, t259, t260, t261⟩, A20, H⟩ := H
 replace H : (if t261 = true then (if t258.toList = ([] : List UInt8) then (some (t260.toList == ([] : List UInt8))) else (some false)) else (some false)) = some r := H
 have A2 := Aside0.mk A20
 clear A20
 by_cases c3 : t261 = true
 ·
  subst c3
  have H1 : (if t258.toList = ([] : List UInt8) then (some (t260.toList == ([] : List UInt8))) else (some false)) = some r := by rw [if_pos rfl] at H; exact H
  clear H
  have H := H1
  clear H1
  by_cases c4 : t258.toList = ([] : List UInt8)
  ·
   rw [if_pos c4] at H
   have c4b0 : (t258.toList == ([] : List UInt8)) = true := beq_iff_eq.mpr c4
   have c4b1 : (t258.toList != ([] : List UInt8)) = false := bne_eq_false_iff_eq.mpr c4
   clear c4
   obtain rfl := Option.some.inj H
   go_enter Tryd.func49, Tryd.ntmps49
   go_wp2_with (first | ((with_reducible refine gate_callee (f := 72) rfl ?_); refine goesL_ (some 7) rfl rfl Tryd.func72 (by kernel_rfl) rfl #[.string a0] rfl zb2_8 ?_; (with_reducible refine (impl_readJid.calls k a0 t258 t259 t260 true _ A2.out zb13_8).mono ?_); rintro e w5 ⟨rfl, hb⟩; refine ⟨_, rfl, ?_⟩; have n0_ := Aside0.mk (below_step zb0_8 hb); clear HB; have HB := n0_; clear n0_; (try clear hb); (try clear hb2); (try clear hk); (try clear hi)) | ((with_reducible refine gate_dst (N := 3) rfl ?_); refine box_event ?hg (N := 3) ?hd (cs := #[.string (⟨#[]⟩ : ByteArray), .string (⟨#[]⟩ : ByteArray), .string (⟨#[]⟩ : ByteArray)]) (t := 100) ?hr ?_; (case hd => rfl); (case hg => rfl); (case hr => first | (go_simp; done) | (go_simp; rfl)); intro gb262 hg w6 hbox hb; have n0_ := Aside0.mk (below_step zb0_8 hb); have n1_ := Aside0.mk (hbox); have n2_ := Aside0.mk ((zb1_8 : w.heap.size ≤ gb262)); have n3_ := Aside0.mk ((zb1_8 : w.heap.size ≤ gb262)); clear HB; have HB := n0_; have BK262 := n1_; have GW262 := n2_; have GE262 := n3_; clear n0_ n1_ n2_ n3_; clear hb hbox hg; have hcz7_0 := bcq_8 BK262.out 0; have hcz7_1 := bcq_8 BK262.out 1; have hcz7_2 := bcq_8 BK262.out 2; have hfz7_0 := blk_frozen BK262.out 0; have hfz7_1 := blk_frozen BK262.out 1; have hfz7_2 := blk_frozen BK262.out 2))
   go_ret
   exact ⟨by first | rfl | (simp [errW_none, errW_some] <;> rfl) | (simp [*, errW_none, errW_some] <;> rfl), by repeat (first | (with_reducible first | exact HB.out | apply below_alloc | apply pw_below_drewN | apply below_drew1 | refine below_set ?_ GE262.out) | exact HB.out)⟩
  ·
   rw [if_neg c4] at H
   have c4b0 : (t258.toList == ([] : List UInt8)) = false := beq_eq_false_iff_ne.mpr c4
   have c4b1 : (t258.toList != ([] : List UInt8)) = true := bne_iff_ne.mpr c4
   obtain rfl := Option.some.inj H
   go_enter Tryd.func49, Tryd.ntmps49
   go_wp2_with (first | ((with_reducible refine gate_callee (f := 72) rfl ?_); refine goesL_ (some 7) rfl rfl Tryd.func72 (by kernel_rfl) rfl #[.string a0] rfl zb2_8 ?_; (with_reducible refine (impl_readJid.calls k a0 t258 t259 t260 true _ A2.out zb13_8).mono ?_); rintro e w8 ⟨rfl, hb⟩; refine ⟨_, rfl, ?_⟩; have n0_ := Aside0.mk (below_step zb0_8 hb); clear HB; have HB := n0_; clear n0_; (try clear hb); (try clear hb2); (try clear hk); (try clear hi)) | ((with_reducible refine gate_dst (N := 3) rfl ?_); refine box_event ?hg (N := 3) ?hd (cs := #[.string (⟨#[]⟩ : ByteArray), .string (⟨#[]⟩ : ByteArray), .string (⟨#[]⟩ : ByteArray)]) (t := 100) ?hr ?_; (case hd => rfl); (case hg => rfl); (case hr => first | (go_simp; done) | (go_simp; rfl)); intro gb262 hg w9 hbox hb; have n0_ := Aside0.mk (below_step zb0_8 hb); have n1_ := Aside0.mk (hbox); have n2_ := Aside0.mk ((zb1_8 : w.heap.size ≤ gb262)); have n3_ := Aside0.mk ((zb1_8 : w.heap.size ≤ gb262)); clear HB; have HB := n0_; have BK262 := n1_; have GW262 := n2_; have GE262 := n3_; clear n0_ n1_ n2_ n3_; clear hb hbox hg; have hcz10_0 := bcq_8 BK262.out 0; have hcz10_1 := bcq_8 BK262.out 1; have hcz10_2 := bcq_8 BK262.out 2; have hfz10_0 := blk_frozen BK262.out 0; have hfz10_1 := blk_frozen BK262.out 1; have hfz10_2 := blk_frozen BK262.out 2))
   go_ret
   exact ⟨by first | rfl | (simp [errW_none, errW_some] <;> rfl) | (simp [*, errW_none, errW_some] <;> rfl), by repeat (first | (with_reducible first | exact HB.out | apply below_alloc | apply pw_below_drewN | apply below_drew1 | refine below_set ?_ GE262.out) | exact HB.out)⟩
 ·
  replace c3 := Bool.eq_false_iff.mpr c3
  subst c3
  have H1 : (some false) = some r := by rw [if_neg (show ¬ (false = true) by decide)] at H; exact H
  clear H
  have H := H1
  clear H1
  obtain rfl := Option.some.inj H
  go_enter Tryd.func49, Tryd.ntmps49
  go_wp2_with (first | ((with_reducible refine gate_callee (f := 72) rfl ?_); refine goesL_ (some 7) rfl rfl Tryd.func72 (by kernel_rfl) rfl #[.string a0] rfl zb2_8 ?_; (with_reducible refine (impl_readJid.calls k a0 t258 t259 t260 false _ A2.out zb13_8).mono ?_); rintro e w11 ⟨rfl, hb⟩; refine ⟨_, rfl, ?_⟩; have n0_ := Aside0.mk (below_step zb0_8 hb); clear HB; have HB := n0_; clear n0_; (try clear hb); (try clear hb2); (try clear hk); (try clear hi)) | ((with_reducible refine gate_dst (N := 3) rfl ?_); refine box_event ?hg (N := 3) ?hd (cs := #[.string (⟨#[]⟩ : ByteArray), .string (⟨#[]⟩ : ByteArray), .string (⟨#[]⟩ : ByteArray)]) (t := 100) ?hr ?_; (case hd => rfl); (case hg => rfl); (case hr => first | (go_simp; done) | (go_simp; rfl)); intro gb262 hg w12 hbox hb; have n0_ := Aside0.mk (below_step zb0_8 hb); have n1_ := Aside0.mk (hbox); have n2_ := Aside0.mk ((zb1_8 : w.heap.size ≤ gb262)); have n3_ := Aside0.mk ((zb1_8 : w.heap.size ≤ gb262)); clear HB; have HB := n0_; have BK262 := n1_; have GW262 := n2_; have GE262 := n3_; clear n0_ n1_ n2_ n3_; clear hb hbox hg; have hcz13_0 := bcq_8 BK262.out 0; have hcz13_1 := bcq_8 BK262.out 1; have hcz13_2 := bcq_8 BK262.out 2; have hfz13_0 := blk_frozen BK262.out 0; have hfz13_1 := blk_frozen BK262.out 1; have hfz13_2 := blk_frozen BK262.out 2))
  go_ret
  exact ⟨by first | rfl | (simp [errW_none, errW_some] <;> rfl) | (simp [*, errW_none, errW_some] <;> rfl), by repeat (first | (with_reducible first | exact HB.out | apply below_alloc | apply pw_below_drewN | apply below_drew1 | refine below_set ?_ GE262.out) | exact HB.out)⟩

/-! ### impl_isId: function 50 -/
def impl_isId.f (a0 : Int) : Option (Bool) := (impl_in.f a0 1 1000000000).bind fun t263 => (some t263)
set_option maxHeartbeats 8000000 in
set_option maxRecDepth 100000 in
theorem impl_isId.calls (a0 : Int) (r : Bool) (w : World) (h : impl_isId.f a0 = some r) :
  Calls Tryd.prog 50 #[.int .i64 a0] w fun e w' => e = .returned (.bool r) ∧ Drawn0 w w' := by
 have H : ((impl_in.f a0 1 1000000000).bind fun t263 => (some t263)) = some r := h
 clear h
 replace H := Option.bind_eq_some_iff.mp H
 obtain ⟨t263, A20, H⟩ := H
 replace H : (some t263) = some r := H
 have A2 := Aside0.mk A20
 clear A20
 obtain rfl := Option.some.inj H
 go_enter Tryd.func50, Tryd.ntmps50
 go_wp2_with (first | ((with_reducible refine gate_callee (f := 51) rfl ?_); refine goesL_ (some 4) rfl rfl Tryd.func51 (by kernel_rfl) rfl #[.int .i64 a0, .int .i64 1, .int .i64 1000000000] rfl zb2_8 ?_; (with_reducible refine (impl_in.calls a0 1 1000000000 t263 _ A2.out).mono ?_); rintro e w' ⟨rfl, ⟨nd, rfl⟩⟩; refine ⟨_, rfl, ?_⟩))
 go_ret
 exact ⟨by first | rfl | (simp; done) | (simp [*]; done), by repeat (first | exact Drawn0.refl _ | apply Drawn0.step)⟩

end Go.Proofs.YtjchggdekbnmnaaDoor.QFnExactDbResult
