-- laid by this session's own runner (wip/print2.py): not a printed file
import Derived.Test.YtjchggdekbnmnaaDoorQFnExactHeadTextx0
import Derived.Test.YtjchggdekbnmnaaDoorQFnExactHeadTextx2
import Derived.Test.YtjchggdekbnmnaaDoorQFnExactHeadTextx3
namespace Go.Proofs.YtjchggdekbnmnaaDoor.QFnExactHeadText
open Go.RowKit Go.Proofs.YtjchggdekbnmnaaDoorW.PrintWords Go.Proofs.YtjchggdekbnmnaaDoorW.PrintLast Go.Proofs.YtjchggdekbnmnaaDoorW.PrintMore
attribute [local go_sem] max2_int min2_int max_two min_two max_three min_three max_four min_four   -- for this text's walks alone
set_option linter.unusedVariables false
set_option linter.unusedSimpArgs false

theorem zp_4 {P : Program} {md : Region.Mode} {ops : Array Oper} {Q : Exit → Act → World → Prop} {S : World → Prop} {ds : List Nat} {T : Bool × List (List Nat × List Nat)} {fuel : Nat} {l : Array Bool} {a : Act} {w : World} {oi : Oper} {v : Value} {a' : Act} (i : Nat) (N : Option Tmp) (l' : Array Bool) (hT : Aside0 (rtab md ops = T))
    (h : wpAnyLast P md ops Q S ds fuel l' a' w) (hc : anyT T l.toList l'.toList i = true := by kernel_rfl) (hi : ops[i]? = some oi := by rfl) (hN : oi.dst = N := by rfl) (hQ : ∀ c a w, Q (.panic c) (a.put oi.dst v) w → Q (.panic c) a w := by exact fun _ _ _ h => h)
    (hy : Yields P ops oi v a := by (refine Or.inl ⟨by rfl, ?_⟩; intro w'; go_simp; with_reducible rfl)) (ha : a.put N v = a' := by (simp only [Act.put, List.setIfInBounds_toArray, List.set_cons_zero, List.set_cons_succ, i64_w, i32_w]; rfl)) : wpAnyLast P md ops Q S ds (fuel + 1) l a w :=
  pure_ l' hi hN (any_of hT.out hc) hQ hy ha h
theorem zu_4 {P : Program} {md : Region.Mode} {ops : Array Oper} {Q : Exit → Act → World → Prop} {S : World → Prop} {ds : List Nat} {T : Bool × List (List Nat × List Nat)} {fuel : Nat} {l : Array Bool} {a : Act} {w : World} {oi : Oper} {a' : Act} (i : Nat) (N : Option Tmp) (l' : Array Bool) (hT : Aside0 (rtab md ops = T))
    (h : wpAnyLast P md ops Q S ds fuel l' a' w) (hc : anyT T l.toList l'.toList i = true := by kernel_rfl) (hi : ops[i]? = some oi := by rfl) (hN : oi.dst = N := by rfl) (hQ : ∀ c a w, Q (.panic c) (a.put oi.dst undef) w → Q (.panic c) a w := by exact fun _ _ _ h => h)
    (hy : Yields P ops oi undef a := by exact Or.inr ⟨by rfl, rfl⟩) (ha : a.put N undef = a' := by (simp only [Act.put, List.setIfInBounds_toArray, List.set_cons_zero, List.set_cons_succ, i64_w, i32_w]; rfl)) : wpAnyLast P md ops Q S ds (fuel + 1) l a w :=
  pure_ l' hi hN (any_of hT.out hc) hQ hy ha h
abbrev zm0_4 : Array Bool := #[false, false, false, false, false, false, false, false, false, false, false]
abbrev zm1_4 : Array Bool := #[true, false, false, false, false, false, false, false, false, false, false]
abbrev zm2_4 : Array Bool := #[true, true, false, false, false, false, false, false, false, false, false]
abbrev zm3_4 : Array Bool := #[true, true, true, false, false, false, false, false, false, false, false]
abbrev zm4_4 : Array Bool := #[true, true, true, true, false, false, false, false, false, false, false]
abbrev zm5_4 : Array Bool := #[true, true, true, true, false, false, true, false, false, false, false]
abbrev zm6_4 : Array Bool := #[true, true, true, true, true, false, true, false, false, false, false]
abbrev zm7_4 : Array Bool := #[true, true, true, true, true, true, true, false, false, false, false]
abbrev zm8_4 : Array Bool := #[true, true, true, true, true, true, true, true, false, false, false]
abbrev zm9_4 : Array Bool := #[true, true, true, true, true, true, true, true, true, false, false]
abbrev zm10_4 : Array Bool := #[true, true, true, true, true, true, true, true, true, true, false]
abbrev zm11_4 : Array Bool := #[true, true, true, true, true, true, true, true, true, true, true]
abbrev zm12_4 : Array Bool := #[true, true, true, true, true, false, false, false, false, false, false]
abbrev zm13_4 : Array Bool := #[true, true, true, true, true, true, false, false, false, false, false]
theorem bcq_4 {w : World} {g t : Nat} {cs : Array Value} {v : Value} (h : w.heap[g]? = some (.cells cs t (0, 0))) (j : Nat) (e : cs[j]? = some v := by rfl) : w.cell? ⟨g, j, none⟩ = some v := (blk_cell h j).trans e
theorem zb0_4 {P : Prop} (h : P := by repeat (first | (with_reducible first | exact HB.out | apply below_alloc | apply pw_below_drewN | apply below_drew1) | exact HB.out)) : P := h
theorem zb1_4 {P : Prop} (h : P := by rw [hg]; exact (below_size (by repeat (first | (with_reducible first | exact HB.out | apply below_alloc | apply pw_below_drewN | apply below_drew1) | exact HB.out)))) : P := h
theorem zb2_4 {P : Prop} (h : P := by (try simp only [List.map_toArray, List.map_cons, List.map_nil]); first | done | rfl | (simp only [List.length_drop, List.length_take]; rfl)) : P := h
theorem zb3_4 {P : Prop} (h : P := by first | exact hmx | exact hmx.below HB.out | exact hmx.below (by repeat (first | (with_reducible first | exact HB.out | apply below_alloc | apply pw_below_drewN | apply below_drew1 | refine below_set ?_ GE134.out | refine below_set ?_ GE141.out | refine below_set ?_ GE144.out | exact Below.refl _ _) | exact HB.out | exact Below.refl _ _))) : P := h
theorem zb4_4 {P : Prop} (h : P := by (with_reducible repeat (first | refine blk_drewN ?_ _ | refine blk_drew ?_ | refine blk_alloc ?_ _)); exact BK134.out) : P := h
theorem zb5_4 {P : Prop} (h : P := by repeat (first | (with_reducible first | exact HB.out | apply below_alloc | apply pw_below_drewN | apply below_drew1 | refine below_set ?_ GE134.out) | exact HB.out)) : P := h
theorem zb6_4 {P : Prop} (h : P := by rw [hg]; exact (below_size (by repeat (first | (with_reducible first | exact HB.out | apply below_alloc | apply pw_below_drewN | apply below_drew1 | refine below_set ?_ GE134.out) | exact HB.out)))) : P := h
theorem zb7_4 {P : Prop} (h : P := by rw [hg]; exact Nat.ne_of_lt (blk_lt (g := gb134) (o := .cells #[.string (⟨#[]⟩ : ByteArray), .string (⟨#[]⟩ : ByteArray), .string (⟨#[]⟩ : ByteArray)] 100 (0, 0)) (by (with_reducible repeat (first | refine blk_drewN ?_ _ | refine blk_drew ?_ | refine blk_alloc ?_ _)); exact BK134.out))) : P := h
theorem zb8_4 {P : Prop} (h : P := by rw [hg]; exact Nat.ne_of_gt (blk_lt (g := gb134) (o := .cells #[.string (⟨#[]⟩ : ByteArray), .string (⟨#[]⟩ : ByteArray), .string (⟨#[]⟩ : ByteArray)] 100 (0, 0)) (by (with_reducible repeat (first | refine blk_drewN ?_ _ | refine blk_drew ?_ | refine blk_alloc ?_ _)); exact BK134.out))) : P := h
theorem zb9_4 {P : Prop} (h : P := by (with_reducible repeat (first | refine blk_drewN ?_ _ | refine blk_drew ?_ | refine blk_alloc ?_ _)); exact BK141.out) : P := h
theorem zb10_4 {P : Prop} (h : P := by repeat (first | (with_reducible first | exact HB.out | apply below_alloc | apply pw_below_drewN | apply below_drew1 | refine below_set ?_ GE134.out | refine below_set ?_ GE141.out) | exact HB.out)) : P := h
theorem zb11_4 {P : Prop} (h : P := by (with_reducible repeat (first | refine blk_drewN ?_ _ | refine blk_drew ?_ | refine blk_alloc ?_ _)); exact BK144.out) : P := h
theorem zb12_4 {P : Prop} (h : P := by repeat (first | (with_reducible first | exact HB.out | apply below_alloc | apply pw_below_drewN | apply below_drew1 | refine below_set ?_ GE134.out | refine below_set ?_ GE144.out) | exact HB.out)) : P := h
theorem zb13_4 {P : Prop} (h : P := by first | exact hmx | exact hmx.below HB.out | exact hmx.below (by repeat (first | (with_reducible first | exact HB.out | apply below_alloc | apply pw_below_drewN | apply below_drew1 | refine below_set ?_ GE151.out | exact Below.refl _ _) | exact HB.out | exact Below.refl _ _))) : P := h
theorem zb14_4 {P : Prop} (h : P := by first | exact hmx | exact hmx.below HB.out | exact hmx.below (by repeat (first | (with_reducible first | exact HB.out | apply below_alloc | apply pw_below_drewN | apply below_drew1 | refine below_set ?_ GE152.out | exact Below.refl _ _) | exact HB.out | exact Below.refl _ _))) : P := h
theorem zb15_4 {P : Prop} (h : P := by (with_reducible repeat (first | refine blk_drewN ?_ _ | refine blk_drew ?_ | refine blk_alloc ?_ _)); exact BK152.out) : P := h
theorem zb16_4 {P : Prop} (h : P := by repeat (first | (with_reducible first | exact HB.out | apply below_alloc | apply pw_below_drewN | apply below_drew1 | refine below_set ?_ GE152.out) | exact HB.out)) : P := h
/-! ### impl_readJid: function 72 -/
def impl_readJid.f (k : Nat) (a0 : ByteArray) : Option (ByteArray × ByteArray × ByteArray × Bool) := (strings_Cut.f a0 (⟨#[47]⟩ : ByteArray)).bind fun bt135 => ((strings_Cut.f bt135.1 (⟨#[64]⟩ : ByteArray)).bind fun bt138 => (if bt138.2.2 = true then ((impl_JidRight.f k bt138.1 bt138.2.1 bt135.2.1).bind fun t142 => (if t142 = true then ((impl_Jid_text.f bt138.1 bt138.2.1 bt135.2.1).bind fun t143 => (some (bt138.1, bt138.2.1, bt135.2.1, (t143.toList == a0.toList)))) else (some (bt138.1, bt138.2.1, bt135.2.1, false)))) else ((impl_JidRight.f k (⟨#[]⟩ : ByteArray) bt135.1 bt135.2.1).bind fun t145 => (if t145 = true then ((impl_Jid_text.f (⟨#[]⟩ : ByteArray) bt135.1 bt135.2.1).bind fun t146 => (some ((⟨#[]⟩ : ByteArray), bt135.1, bt135.2.1, (t146.toList == a0.toList)))) else (some ((⟨#[]⟩ : ByteArray), bt135.1, bt135.2.1, false))))))
theorem impl_readJid.mono : ∀ a0 k, LeO (impl_readJid.f k a0) (impl_readJid.f (k + 1) a0) := by
 intro a0 k
 unfold impl_readJid.f
 repeat' first
   | (with_reducible exact impl_JidRight.mono _ _ _ _)
   | (with_reducible exact LeO.refl _)
   | (with_reducible exact LeO.none _)
   | (with_reducible refine LeO.ite ?_ ?_)
   | (with_reducible refine LeO.bind ?_ (fun _ => ?_))
   | exact impl_JidRight.mono _ _ _ _
   | exact LeO.none _
   | refine LeO.ite ?_ ?_
   | refine LeO.bind ?_ (fun _ => ?_)
def impl_readJid.T6 : Bool × List (List Nat × List Nat) := (true, [([], []), ([], []), ([1], [1]), ([2, 2], [2]), ([3], [3]), ([4, 3, 3], [3, 4]), ([3], [3]), ([5, 6, 3], [3, 5, 6]), ([3, 7], [3, 7]), ([0, 5, 0], [0]), ([8, 9, 0, 1, 2, 3, 4, 5, 6, 7, 8, 9], [8])])
def impl_readJid.B6 : List Nat := [0, 0, 2, 6, 14, 30, 14, 126, 254, 63, 1023]
theorem impl_readJid.tab6 : rtab .any (opsOf Tryd.f72 6) = impl_readJid.T6 := by kernel_rfl
theorem impl_readJid.bits6 : waitsOk impl_readJid.T6.2 impl_readJid.B6 = true := by kernel_rfl
set_option maxHeartbeats 8000000 in
set_option maxRecDepth 100000 in
theorem impl_readJid.calls (k : Nat) (a0 : ByteArray) (r1 : ByteArray) (r2 : ByteArray) (r3 : ByteArray) (r4 : Bool) (w : World) (h : impl_readJid.f k a0 = some (r1, r2, r3, r4)) (hmx : MaxIs w) :
  Calls Tryd.prog 72 #[.string a0] w fun e w' => e = .returned (.tuple #[.agg #[.string r1, .string r2, .string r3], .bool r4]) ∧ Below w.heap.size w w' := by
 have hu100 := Tryd.underlying100
 have HB := Aside0.mk (Below.refl w.heap.size w)
 have H : ((strings_Cut.f a0 (⟨#[47]⟩ : ByteArray)).bind fun bt135 => ((strings_Cut.f bt135.1 (⟨#[64]⟩ : ByteArray)).bind fun bt138 => (if bt138.2.2 = true then ((impl_JidRight.f k bt138.1 bt138.2.1 bt135.2.1).bind fun t142 => (if t142 = true then ((impl_Jid_text.f bt138.1 bt138.2.1 bt135.2.1).bind fun t143 => (some (bt138.1, bt138.2.1, bt135.2.1, (t143.toList == a0.toList)))) else (some (bt138.1, bt138.2.1, bt135.2.1, false)))) else ((impl_JidRight.f k (⟨#[]⟩ : ByteArray) bt135.1 bt135.2.1).bind fun t145 => (if t145 = true then ((impl_Jid_text.f (⟨#[]⟩ : ByteArray) bt135.1 bt135.2.1).bind fun t146 => (some ((⟨#[]⟩ : ByteArray), bt135.1, bt135.2.1, (t146.toList == a0.toList)))) else (some ((⟨#[]⟩ : ByteArray), bt135.1, bt135.2.1, false))))))) = some (r1, r2, r3, r4) := h
 clear h
 replace H := Option.bind_eq_some_iff.mp H
 obtain ⟨⟨t135, t136, t137⟩, A20, H⟩ := H
 replace H : ((strings_Cut.f t135 (⟨#[64]⟩ : ByteArray)).bind fun bt138 => (if bt138.2.2 = true then ((impl_JidRight.f k bt138.1 bt138.2.1 t136).bind fun t142 => (if t142 = true then ((impl_Jid_text.f bt138.1 bt138.2.1 t136).bind fun t143 => (some (bt138.1, bt138.2.1, t136, (t143.toList == a0.toList)))) else (some (bt138.1, bt138.2.1, t136, false)))) else ((impl_JidRight.f k (⟨#[]⟩ : ByteArray) t135 t136).bind fun t145 => (if t145 = true then ((impl_Jid_text.f (⟨#[]⟩ : ByteArray) t135 t136).bind fun t146 => (some ((⟨#[]⟩ : ByteArray), t135, t136, (t146.toList == a0.toList)))) else (some ((⟨#[]⟩ : ByteArray), t135, t136, false)))))) = some (r1, r2, r3, r4) := H
 have A2 := Aside0.mk A20
 clear A20
 replace H := Option.bind_eq_some_iff.mp H
 obtain ⟨⟨t138, t139, t140⟩, A30, H⟩ := H
 replace H : (if t140 = true then ((impl_JidRight.f k t138 t139 t136).bind fun t142 => (if t142 = true then ((impl_Jid_text.f t138 t139 t136).bind fun t143 => (some (t138, t139, t136, (t143.toList == a0.toList)))) else (some (t138, t139, t136, false)))) else ((impl_JidRight.f k (⟨#[]⟩ : ByteArray) t135 t136).bind fun t145 => (if t145 = true then ((impl_Jid_text.f (⟨#[]⟩ : ByteArray) t135 t136).bind fun t146 => (some ((⟨#[]⟩ : ByteArray), t135, t136, (t146.toList == a0.toList)))) else (some ((⟨#[]⟩ : ByteArray), t135, t136, false))))) = some (r1, r2, r3, r4) := H
 have A3 := Aside0.mk A30
 clear A30
 by_cases c4 : t140 = true
 ·
  subst c4
  have H1 : ((impl_JidRight.f k t138 t139 t136).bind fun t142 => (if t142 = true then ((impl_Jid_text.f t138 t139 t136).bind fun t143 => (some (t138, t139, t136, (t143.toList == a0.toList)))) else (some (t138, t139, t136, false)))) = some (r1, r2, r3, r4) := by rw [if_pos rfl] at H; exact H
  clear H
  have H := H1
  clear H1
  replace H := Option.bind_eq_some_iff.mp H
  obtain ⟨t142, A50, H⟩ := H
  replace H : (if t142 = true then ((impl_Jid_text.f t138 t139 t136).bind fun t143 => (some (t138, t139, t136, (t143.toList == a0.toList)))) else (some (t138, t139, t136, false))) = some (r1, r2, r3, r4) := H
  have A5 := Aside0.mk A50
  clear A50
  by_cases c6 : t142 = true
  ·
   subst c6
   have H1 : ((impl_Jid_text.f t138 t139 t136).bind fun t143 => (some (t138, t139, t136, (t143.toList == a0.toList)))) = some (r1, r2, r3, r4) := by rw [if_pos rfl] at H; exact H
   clear H
   have H := H1
   clear H1
   replace H := Option.bind_eq_some_iff.mp H
   obtain ⟨t143, A70, H⟩ := H
   replace H : (some (t138, t139, t136, (t143.toList == a0.toList))) = some (r1, r2, r3, r4) := H
   have A7 := Aside0.mk A70
   clear A70
   simp only [Option.some.injEq, Prod.mk.injEq] at H
   obtain ⟨rfl, rfl, rfl, rfl⟩ := H
   go_enter Tryd.func72, Tryd.ntmps72
   try go_wp2_with (first | ((with_reducible refine gate_dst (N := 2) rfl ?_); refine box_event ?hg (N := 2) ?hd (cs := #[.string (⟨#[]⟩ : ByteArray), .string (⟨#[]⟩ : ByteArray), .string (⟨#[]⟩ : ByteArray)]) (t := 100) ?hr ?_; (case hd => rfl); (case hg => rfl); (case hr => first | (go_simp; done) | (go_simp; rfl)); intro gb134 hg w8 hbox hb; have n0_ := Aside0.mk (below_step zb0_4 hb); have n1_ := Aside0.mk (hbox); have n2_ := Aside0.mk ((zb1_4 : w.heap.size ≤ gb134)); have n3_ := Aside0.mk ((zb1_4 : w.heap.size ≤ gb134)); clear HB; have HB := n0_; have BK134 := n1_; have GW134 := n2_; have GE134 := n3_; clear n0_ n1_ n2_ n3_; clear hb hbox hg) | ((with_reducible refine gate_callee (f := 82) rfl ?_); refine goesL_ (some 13) rfl rfl Tryd.func82 (by kernel_rfl) rfl #[.string a0, .string (⟨#[47]⟩ : ByteArray)] rfl zb2_4 ?_; (with_reducible refine (strings_Cut.calls a0 (⟨#[47]⟩ : ByteArray) t135 t136 t137 _ A2.out zb3_4).mono ?_); rintro e w' ⟨rfl, ⟨nd, rfl⟩⟩; refine ⟨_, rfl, ?_⟩; (try (rw [drewN_self w8]; generalize hq_ : World.drewN w8 _ = w8; have n0_ : Aside0 (w8.heap[gb134]? = some (.cells #[.string (⟨#[]⟩ : ByteArray), .string (⟨#[]⟩ : ByteArray), .string (⟨#[]⟩ : ByteArray)] 100 (0, 0))) := ⟨by rw [← hq_]; exact zb4_4⟩; have n1_ : Aside0 (Below w.heap.size w w8) := ⟨by rw [← hq_]; exact zb5_4⟩; clear BK134 HB hq_; have BK134 := n0_; have HB := n1_; clear n0_ n1_))) | ((with_reducible refine gate_callee (f := 82) rfl ?_); refine goesL_ (some 19) rfl rfl Tryd.func82 (by kernel_rfl) rfl #[.string t135, .string (⟨#[64]⟩ : ByteArray)] rfl zb2_4 ?_; (with_reducible refine (strings_Cut.calls t135 (⟨#[64]⟩ : ByteArray) t138 t139 true _ A3.out zb3_4).mono ?_); rintro e w' ⟨rfl, ⟨nd, rfl⟩⟩; refine ⟨_, rfl, ?_⟩; (try (rw [drewN_self w8]; generalize hq_ : World.drewN w8 _ = w8; have n0_ : Aside0 (w8.heap[gb134]? = some (.cells #[.string (⟨#[]⟩ : ByteArray), .string (⟨#[]⟩ : ByteArray), .string (⟨#[]⟩ : ByteArray)] 100 (0, 0))) := ⟨by rw [← hq_]; exact zb4_4⟩; have n1_ : Aside0 (Below w.heap.size w w8) := ⟨by rw [← hq_]; exact zb5_4⟩; clear BK134 HB hq_; have BK134 := n0_; have HB := n1_; clear n0_ n1_))) | ((with_reducible refine gate_dst (N := 10) rfl ?_); refine box_event ?hg (N := 10) ?hd (cs := #[.string (⟨#[]⟩ : ByteArray), .string (⟨#[]⟩ : ByteArray), .string (⟨#[]⟩ : ByteArray)]) (t := 100) ?hr ?_; (case hd => rfl); (case hg => rfl); (case hr => first | (go_simp; done) | (go_simp; rfl)); intro gb141 hg w9 hbox hb; have n0_ := Aside0.mk (blk_below (g := gb134) (o := .cells #[.string (⟨#[]⟩ : ByteArray), .string (⟨#[]⟩ : ByteArray), .string (⟨#[]⟩ : ByteArray)] 100 (0, 0)) zb4_4 hb); have n1_ := Aside0.mk (below_step zb5_4 hb); have n2_ := Aside0.mk (hbox); have n3_ := Aside0.mk ((zb6_4 : w.heap.size ≤ gb141)); have n4_ := Aside0.mk ((zb6_4 : w.heap.size ≤ gb141)); have n5_ := Aside0.mk ((zb7_4 : gb134 ≠ gb141)); have n6_ := Aside0.mk ((zb8_4 : gb141 ≠ gb134)); clear BK134; clear HB; have BK134 := n0_; have HB := n1_; have BK141 := n2_; have GW141 := n3_; have GE141 := n4_; have NB134_141 := n5_; have NB141_134 := n6_; clear n0_ n1_ n2_ n3_ n4_ n5_ n6_; clear hb hbox hg; have hnb10 := NB141_134.out; have hnc10 := NB134_141.out; have hcz11_0 := bcq_4 BK141.out 0; have hcz11_1 := bcq_4 BK141.out 1; have hcz11_2 := bcq_4 BK141.out 2; have hfz11_0 := blk_frozen BK141.out 0; have hfz11_1 := blk_frozen BK141.out 1; have hfz11_2 := blk_frozen BK141.out 2))
   have n0_ : Aside0 ((((w9.setCell ⟨gb141, 0, none⟩ (.string t138)).setCell ⟨gb141, 1, none⟩ (.string t139)).setCell ⟨gb141, 2, none⟩ (.string t136)).heap[gb134]? = some (.cells #[.string (⟨#[]⟩ : ByteArray), .string (⟨#[]⟩ : ByteArray), .string (⟨#[]⟩ : ByteArray)] 100 (0, 0))) := ⟨by (with_reducible repeat (first | refine blk_drewN ?_ _ | refine blk_drew ?_ | refine blk_alloc ?_ _)); refine blk_far ?_ NB134_141.out _; (with_reducible repeat (first | refine blk_drewN ?_ _ | refine blk_drew ?_ | refine blk_alloc ?_ _)); refine blk_far ?_ NB134_141.out _; (with_reducible repeat (first | refine blk_drewN ?_ _ | refine blk_drew ?_ | refine blk_alloc ?_ _)); refine blk_far ?_ NB134_141.out _; (with_reducible repeat (first | refine blk_drewN ?_ _ | refine blk_drew ?_ | refine blk_alloc ?_ _)); exact BK134.out⟩
   have n1_ : Aside0 ((((w9.setCell ⟨gb141, 0, none⟩ (.string t138)).setCell ⟨gb141, 1, none⟩ (.string t139)).setCell ⟨gb141, 2, none⟩ (.string t136)).heap[gb141]? = some (.cells #[.string t138, .string t139, .string t136] 100 (0, 0))) := ⟨by (with_reducible repeat (first | refine blk_drewN ?_ _ | refine blk_drew ?_ | refine blk_alloc ?_ _)); refine blk_put (cs := #[.string t138, .string t139, .string (⟨#[]⟩ : ByteArray)]) ?_ 2 _ rfl; (with_reducible repeat (first | refine blk_drewN ?_ _ | refine blk_drew ?_ | refine blk_alloc ?_ _)); refine blk_put (cs := #[.string t138, .string (⟨#[]⟩ : ByteArray), .string (⟨#[]⟩ : ByteArray)]) ?_ 1 _ rfl; (with_reducible repeat (first | refine blk_drewN ?_ _ | refine blk_drew ?_ | refine blk_alloc ?_ _)); refine blk_put (cs := #[.string (⟨#[]⟩ : ByteArray), .string (⟨#[]⟩ : ByteArray), .string (⟨#[]⟩ : ByteArray)]) ?_ 0 _ rfl; (with_reducible repeat (first | refine blk_drewN ?_ _ | refine blk_drew ?_ | refine blk_alloc ?_ _)); exact BK141.out⟩
   have n2_ : Aside0 (Below w.heap.size w (((w9.setCell ⟨gb141, 0, none⟩ (.string t138)).setCell ⟨gb141, 1, none⟩ (.string t139)).setCell ⟨gb141, 2, none⟩ (.string t136))) := ⟨by repeat (first | (with_reducible first | exact HB.out | apply below_alloc | apply pw_below_drewN | apply below_drew1 | refine below_set ?_ GE134.out | refine below_set ?_ GE141.out) | exact HB.out)⟩
   (try clear BK134)
   (try clear BK141)
   (try clear HB)
   generalize (((w9.setCell ⟨gb141, 0, none⟩ (.string t138)).setCell ⟨gb141, 1, none⟩ (.string t139)).setCell ⟨gb141, 2, none⟩ (.string t136)) = w12 at n0_ n1_ n2_ ⊢
   have BK134 := n0_
   have BK141 := n1_
   have HB := n2_
   clear n0_ n1_ n2_
   have n0_ := Aside0.mk (blk_drew BK134.out)
   have n1_ := Aside0.mk (blk_drew BK141.out)
   have n2_ := Aside0.mk (below_drew1 HB.out)
   clear BK134
   clear BK141
   clear HB
   have BK134 := n0_
   have BK141 := n1_
   have HB := n2_
   clear n0_ n1_ n2_
   refine start_ (n := 11) (S := fun w' => w'.cell? ⟨gb141, 0, none⟩ = some (.string t138) ∧ w'.cell? ⟨gb141, 1, none⟩ = some (.string t139) ∧ w'.cell? ⟨gb141, 2, none⟩ = some (.string t136)) (ds := []) zm0_4 (by kernel_rfl) rfl rfl ⟨(blk_cell BK141.out 0).trans rfl, (blk_cell BK141.out 1).trans rfl, (blk_cell BK141.out 2).trans rfl⟩ (fun hHeld => ?_); refine with_tabW impl_readJid.tab6 impl_readJid.bits6 (fun HT_ HW_ => ?_)
   generalize w12.drew = w13 at BK134 BK141 HB hHeld ⊢
   refine take_ (i := 0) (N := some 30) (v := ?_) (a' := ?_) zm1_4 rfl rfl (take_ofW HT_.out HW_.out (by kernel_rfl)) (fun _ _ _ h => h) (Or.inl ⟨by rfl, ?_⟩) hHeld ?_ ?_
   rotate_left
   ·
    rintro w' ⟨s0, s1, s2⟩
    go_simp
    with_reducible rfl
   rotate_left
   ·
    simp only [Act.put, List.setIfInBounds_toArray, List.set_cons_zero, List.set_cons_succ, i64_w, i32_w]
    rfl
   refine take_ (i := 1) (N := some 31) (v := ?_) (a' := ?_) zm2_4 rfl rfl (take_ofW HT_.out HW_.out (by kernel_rfl)) (fun _ _ _ h => h) (Or.inl ⟨by rfl, ?_⟩) hHeld ?_ ?_
   rotate_left
   ·
    rintro w' ⟨s0, s1, s2⟩
    go_simp
    with_reducible rfl
   rotate_left
   ·
    simp only [Act.put, List.setIfInBounds_toArray, List.set_cons_zero, List.set_cons_succ, i64_w, i32_w]
    rfl
   refine one_ (i := 2) (N := some 32) zm3_4 rfl rfl (one_of HT_.out (by kernel_rfl)) (by decide) (fun K hK => ?_)
   refine goes_ Tryd.func83 (by kernel_rfl) rfl #[.agg #[.string t138, .string t139, .string t136]] (by rfl) rfl rfl zb2_4 ?_
   with_reducible refine (impl_JidRight.calls k t138 t139 t136 true _ A5.out zb3_4).mono ?_
   rintro e w14 ⟨rfl, hb⟩
   refine ⟨_, rfl, ?_⟩
   have n0_ := Aside0.mk (blk_below (g := gb134) (o := .cells #[.string (⟨#[]⟩ : ByteArray), .string (⟨#[]⟩ : ByteArray), .string (⟨#[]⟩ : ByteArray)] 100 (0, 0)) zb4_4 hb)
   have n1_ := Aside0.mk (blk_below (g := gb141) (o := .cells #[.string t138, .string t139, .string t136] 100 (0, 0)) zb9_4 hb)
   have n2_ := Aside0.mk (below_step zb10_4 hb)
   clear BK134
   clear BK141
   clear HB
   have BK134 := n0_
   have BK141 := n1_
   have HB := n2_
   clear n0_ n1_ n2_
   (try clear hb)
   (try clear hb2)
   (try clear hk)
   (try clear hi)
   refine hK.out _ _ ⟨(blk_cell BK141.out 0).trans rfl, (blk_cell BK141.out 1).trans rfl, (blk_cell BK141.out 2).trans rfl⟩ (fun hHeld => ?_)
   clear hK K
   refine norm_ (a' := ?_) ?_ ?_
   rotate_left
   ·
    show Act.put _ (some 32) _ = _
    simp only [Act.put, List.setIfInBounds_toArray, List.set_cons_zero, List.set_cons_succ, i64_w, i32_w]
    rfl
   refine zp_4 3 (some 33) zm4_4 HT_ ?_
   refine zp_4 6 (some 36) zm5_4 HT_ ?_
   refine take_ (i := 4) (N := some 34) (v := ?_) (a' := ?_) zm6_4 rfl rfl (take_ofW HT_.out HW_.out (by kernel_rfl)) (fun _ _ _ h => h) (Or.inl ⟨by rfl, ?_⟩) hHeld ?_ ?_
   rotate_left
   ·
    rintro w' ⟨s0, s1, s2⟩
    go_simp
    with_reducible rfl
   rotate_left
   ·
    simp only [Act.put, List.setIfInBounds_toArray, List.set_cons_zero, List.set_cons_succ, i64_w, i32_w]
    rfl
   refine one_ (i := 5) (N := some 35) zm7_4 rfl rfl (one_of HT_.out (by kernel_rfl)) (by decide) (fun K hK => ?_)
   refine goes_ Tryd.func84 (by kernel_rfl) rfl #[.agg #[.string t138, .string t139, .string t136]] (by rfl) rfl rfl zb2_4 ?_
   with_reducible refine (impl_Jid_text.calls t138 t139 t136 t143 _ A7.out).mono ?_
   rintro e w15 ⟨rfl, hb⟩
   refine ⟨_, rfl, ?_⟩
   have n0_ := Aside0.mk (blk_below (g := gb134) (o := .cells #[.string (⟨#[]⟩ : ByteArray), .string (⟨#[]⟩ : ByteArray), .string (⟨#[]⟩ : ByteArray)] 100 (0, 0)) zb4_4 hb)
   have n1_ := Aside0.mk (blk_below (g := gb141) (o := .cells #[.string t138, .string t139, .string t136] 100 (0, 0)) zb9_4 hb)
   have n2_ := Aside0.mk (below_step zb10_4 hb)
   clear BK134
   clear BK141
   clear HB
   have BK134 := n0_
   have BK141 := n1_
   have HB := n2_
   clear n0_ n1_ n2_
   (try clear hb)
   (try clear hb2)
   (try clear hk)
   (try clear hi)
   refine hK.out _ _ ⟨(blk_cell BK141.out 0).trans rfl, (blk_cell BK141.out 1).trans rfl, (blk_cell BK141.out 2).trans rfl⟩ (fun hHeld => ?_)
   clear hK K
   refine norm_ (a' := ?_) ?_ ?_
   rotate_left
   ·
    show Act.put _ (some 35) _ = _
    simp only [Act.put, List.setIfInBounds_toArray, List.set_cons_zero, List.set_cons_succ, i64_w, i32_w]
    rfl
   refine zp_4 7 (some 37) zm8_4 HT_ ?_
   refine zp_4 8 (some 38) zm9_4 HT_ ?_
   refine one_ (i := 9) (N := none) zm10_4 rfl rfl (one_of HT_.out (by kernel_rfl)) (by decide) (fun K hK => ?_)
   have hs16 : w15.cell? ⟨gb134, 0, none⟩ = some (.string (⟨#[]⟩ : ByteArray)) := (blk_cell BK134.out 0).trans rfl
   have hfs16 := blk_frozen BK134.out 0
   have hns16_1 := NB141_134.out
   have hms16_1 := NB134_141.out
   have hs17 : w15.cell? ⟨gb134, 1, none⟩ = some (.string (⟨#[]⟩ : ByteArray)) := (blk_cell BK134.out 1).trans rfl
   have hfs17 := blk_frozen BK134.out 1
   have hns17_1 := NB141_134.out
   have hms17_1 := NB134_141.out
   have hs18 : w15.cell? ⟨gb134, 2, none⟩ = some (.string (⟨#[]⟩ : ByteArray)) := (blk_cell BK134.out 2).trans rfl
   have hfs18 := blk_frozen BK134.out 2
   have hns18_1 := NB141_134.out
   have hms18_1 := NB134_141.out
   refine skip_ (w1 := ?_) (by rfl) rfl ?_ ?_
   rotate_left
   ·
    go_simp
    rfl
   refine hK.out _ _ ⟨((cell_far (p := ⟨gb134, _, none⟩) NB141_134.out _).trans (((cell_far (p := ⟨gb134, _, none⟩) NB141_134.out _).trans (((cell_far (p := ⟨gb134, _, none⟩) NB141_134.out _).trans (hHeld.1)))))), ((cell_far (p := ⟨gb134, _, none⟩) NB141_134.out _).trans (((cell_far (p := ⟨gb134, _, none⟩) NB141_134.out _).trans (((cell_far (p := ⟨gb134, _, none⟩) NB141_134.out _).trans (hHeld.2.1)))))), ((cell_far (p := ⟨gb134, _, none⟩) NB141_134.out _).trans (((cell_far (p := ⟨gb134, _, none⟩) NB141_134.out _).trans (((cell_far (p := ⟨gb134, _, none⟩) NB141_134.out _).trans (hHeld.2.2))))))⟩ (fun hHeld => ?_)
   clear hK K
   refine zp_4 10 (some 3) zm11_4 HT_ ?_
   refine done_ (done_of HT_.out (by kernel_rfl)) ?_
   try go_wp2
   refine bodyPost_ret (results_ct rfl _ _ gb134 100 #[.string t138, .string t139, .string t136] (0, 0) _ rfl (by (with_reducible repeat (first | refine blk_drewN ?_ _ | refine blk_drew ?_ | refine blk_alloc ?_ _)); refine blk_put (cs := #[.string t138, .string t139, .string (⟨#[]⟩ : ByteArray)]) ?_ 2 _ rfl; (with_reducible repeat (first | refine blk_drewN ?_ _ | refine blk_drew ?_ | refine blk_alloc ?_ _)); refine blk_put (cs := #[.string t138, .string (⟨#[]⟩ : ByteArray), .string (⟨#[]⟩ : ByteArray)]) ?_ 1 _ rfl; (with_reducible repeat (first | refine blk_drewN ?_ _ | refine blk_drew ?_ | refine blk_alloc ?_ _)); refine blk_put (cs := #[.string (⟨#[]⟩ : ByteArray), .string (⟨#[]⟩ : ByteArray), .string (⟨#[]⟩ : ByteArray)]) ?_ 0 _ rfl; (with_reducible repeat (first | refine blk_drewN ?_ _ | refine blk_drew ?_ | refine blk_alloc ?_ _)); exact BK134.out) Tryd.underlying100 rfl (by kernel_rfl)) rfl ?_
   exact ⟨by first | rfl | (simp [errW_none, errW_some] <;> rfl) | (simp [*, errW_none, errW_some] <;> rfl), by repeat (first | (with_reducible first | exact HB.out | apply below_alloc | apply pw_below_drewN | apply below_drew1 | refine below_set ?_ GE134.out | refine below_set ?_ GE141.out) | exact HB.out)⟩
  ·
   replace c6 := Bool.eq_false_iff.mpr c6
   subst c6
   have H1 : (some (t138, t139, t136, false)) = some (r1, r2, r3, r4) := by rw [if_neg (show ¬ (false = true) by decide)] at H; exact H
   clear H
   have H := H1
   clear H1
   simp only [Option.some.injEq, Prod.mk.injEq] at H
   obtain ⟨rfl, rfl, rfl, rfl⟩ := H
   go_enter Tryd.func72, Tryd.ntmps72
   try go_wp2_with (first | ((with_reducible refine gate_dst (N := 2) rfl ?_); refine box_event ?hg (N := 2) ?hd (cs := #[.string (⟨#[]⟩ : ByteArray), .string (⟨#[]⟩ : ByteArray), .string (⟨#[]⟩ : ByteArray)]) (t := 100) ?hr ?_; (case hd => rfl); (case hg => rfl); (case hr => first | (go_simp; done) | (go_simp; rfl)); intro gb134 hg w19 hbox hb; have n0_ := Aside0.mk (below_step zb0_4 hb); have n1_ := Aside0.mk (hbox); have n2_ := Aside0.mk ((zb1_4 : w.heap.size ≤ gb134)); have n3_ := Aside0.mk ((zb1_4 : w.heap.size ≤ gb134)); clear HB; have HB := n0_; have BK134 := n1_; have GW134 := n2_; have GE134 := n3_; clear n0_ n1_ n2_ n3_; clear hb hbox hg) | ((with_reducible refine gate_callee (f := 82) rfl ?_); refine goesL_ (some 13) rfl rfl Tryd.func82 (by kernel_rfl) rfl #[.string a0, .string (⟨#[47]⟩ : ByteArray)] rfl zb2_4 ?_; (with_reducible refine (strings_Cut.calls a0 (⟨#[47]⟩ : ByteArray) t135 t136 t137 _ A2.out zb3_4).mono ?_); rintro e w' ⟨rfl, ⟨nd, rfl⟩⟩; refine ⟨_, rfl, ?_⟩; (try (rw [drewN_self w19]; generalize hq_ : World.drewN w19 _ = w19; have n0_ : Aside0 (w19.heap[gb134]? = some (.cells #[.string (⟨#[]⟩ : ByteArray), .string (⟨#[]⟩ : ByteArray), .string (⟨#[]⟩ : ByteArray)] 100 (0, 0))) := ⟨by rw [← hq_]; exact zb4_4⟩; have n1_ : Aside0 (Below w.heap.size w w19) := ⟨by rw [← hq_]; exact zb5_4⟩; clear BK134 HB hq_; have BK134 := n0_; have HB := n1_; clear n0_ n1_))) | ((with_reducible refine gate_callee (f := 82) rfl ?_); refine goesL_ (some 19) rfl rfl Tryd.func82 (by kernel_rfl) rfl #[.string t135, .string (⟨#[64]⟩ : ByteArray)] rfl zb2_4 ?_; (with_reducible refine (strings_Cut.calls t135 (⟨#[64]⟩ : ByteArray) t138 t139 true _ A3.out zb3_4).mono ?_); rintro e w' ⟨rfl, ⟨nd, rfl⟩⟩; refine ⟨_, rfl, ?_⟩; (try (rw [drewN_self w19]; generalize hq_ : World.drewN w19 _ = w19; have n0_ : Aside0 (w19.heap[gb134]? = some (.cells #[.string (⟨#[]⟩ : ByteArray), .string (⟨#[]⟩ : ByteArray), .string (⟨#[]⟩ : ByteArray)] 100 (0, 0))) := ⟨by rw [← hq_]; exact zb4_4⟩; have n1_ : Aside0 (Below w.heap.size w w19) := ⟨by rw [← hq_]; exact zb5_4⟩; clear BK134 HB hq_; have BK134 := n0_; have HB := n1_; clear n0_ n1_))) | ((with_reducible refine gate_dst (N := 10) rfl ?_); refine box_event ?hg (N := 10) ?hd (cs := #[.string (⟨#[]⟩ : ByteArray), .string (⟨#[]⟩ : ByteArray), .string (⟨#[]⟩ : ByteArray)]) (t := 100) ?hr ?_; (case hd => rfl); (case hg => rfl); (case hr => first | (go_simp; done) | (go_simp; rfl)); intro gb141 hg w20 hbox hb; have n0_ := Aside0.mk (blk_below (g := gb134) (o := .cells #[.string (⟨#[]⟩ : ByteArray), .string (⟨#[]⟩ : ByteArray), .string (⟨#[]⟩ : ByteArray)] 100 (0, 0)) zb4_4 hb); have n1_ := Aside0.mk (below_step zb5_4 hb); have n2_ := Aside0.mk (hbox); have n3_ := Aside0.mk ((zb6_4 : w.heap.size ≤ gb141)); have n4_ := Aside0.mk ((zb6_4 : w.heap.size ≤ gb141)); have n5_ := Aside0.mk ((zb7_4 : gb134 ≠ gb141)); have n6_ := Aside0.mk ((zb8_4 : gb141 ≠ gb134)); clear BK134; clear HB; have BK134 := n0_; have HB := n1_; have BK141 := n2_; have GW141 := n3_; have GE141 := n4_; have NB134_141 := n5_; have NB141_134 := n6_; clear n0_ n1_ n2_ n3_ n4_ n5_ n6_; clear hb hbox hg; have hnb21 := NB141_134.out; have hnc21 := NB134_141.out; have hcz22_0 := bcq_4 BK141.out 0; have hcz22_1 := bcq_4 BK141.out 1; have hcz22_2 := bcq_4 BK141.out 2; have hfz22_0 := blk_frozen BK141.out 0; have hfz22_1 := blk_frozen BK141.out 1; have hfz22_2 := blk_frozen BK141.out 2))
   have n0_ : Aside0 ((((w20.setCell ⟨gb141, 0, none⟩ (.string t138)).setCell ⟨gb141, 1, none⟩ (.string t139)).setCell ⟨gb141, 2, none⟩ (.string t136)).heap[gb134]? = some (.cells #[.string (⟨#[]⟩ : ByteArray), .string (⟨#[]⟩ : ByteArray), .string (⟨#[]⟩ : ByteArray)] 100 (0, 0))) := ⟨by (with_reducible repeat (first | refine blk_drewN ?_ _ | refine blk_drew ?_ | refine blk_alloc ?_ _)); refine blk_far ?_ NB134_141.out _; (with_reducible repeat (first | refine blk_drewN ?_ _ | refine blk_drew ?_ | refine blk_alloc ?_ _)); refine blk_far ?_ NB134_141.out _; (with_reducible repeat (first | refine blk_drewN ?_ _ | refine blk_drew ?_ | refine blk_alloc ?_ _)); refine blk_far ?_ NB134_141.out _; (with_reducible repeat (first | refine blk_drewN ?_ _ | refine blk_drew ?_ | refine blk_alloc ?_ _)); exact BK134.out⟩
   have n1_ : Aside0 ((((w20.setCell ⟨gb141, 0, none⟩ (.string t138)).setCell ⟨gb141, 1, none⟩ (.string t139)).setCell ⟨gb141, 2, none⟩ (.string t136)).heap[gb141]? = some (.cells #[.string t138, .string t139, .string t136] 100 (0, 0))) := ⟨by (with_reducible repeat (first | refine blk_drewN ?_ _ | refine blk_drew ?_ | refine blk_alloc ?_ _)); refine blk_put (cs := #[.string t138, .string t139, .string (⟨#[]⟩ : ByteArray)]) ?_ 2 _ rfl; (with_reducible repeat (first | refine blk_drewN ?_ _ | refine blk_drew ?_ | refine blk_alloc ?_ _)); refine blk_put (cs := #[.string t138, .string (⟨#[]⟩ : ByteArray), .string (⟨#[]⟩ : ByteArray)]) ?_ 1 _ rfl; (with_reducible repeat (first | refine blk_drewN ?_ _ | refine blk_drew ?_ | refine blk_alloc ?_ _)); refine blk_put (cs := #[.string (⟨#[]⟩ : ByteArray), .string (⟨#[]⟩ : ByteArray), .string (⟨#[]⟩ : ByteArray)]) ?_ 0 _ rfl; (with_reducible repeat (first | refine blk_drewN ?_ _ | refine blk_drew ?_ | refine blk_alloc ?_ _)); exact BK141.out⟩
   have n2_ : Aside0 (Below w.heap.size w (((w20.setCell ⟨gb141, 0, none⟩ (.string t138)).setCell ⟨gb141, 1, none⟩ (.string t139)).setCell ⟨gb141, 2, none⟩ (.string t136))) := ⟨by repeat (first | (with_reducible first | exact HB.out | apply below_alloc | apply pw_below_drewN | apply below_drew1 | refine below_set ?_ GE134.out | refine below_set ?_ GE141.out) | exact HB.out)⟩
   (try clear BK134)
   (try clear BK141)
   (try clear HB)
   generalize (((w20.setCell ⟨gb141, 0, none⟩ (.string t138)).setCell ⟨gb141, 1, none⟩ (.string t139)).setCell ⟨gb141, 2, none⟩ (.string t136)) = w23 at n0_ n1_ n2_ ⊢
   have BK134 := n0_
   have BK141 := n1_
   have HB := n2_
   clear n0_ n1_ n2_
   have n0_ := Aside0.mk (blk_drew BK134.out)
   have n1_ := Aside0.mk (blk_drew BK141.out)
   have n2_ := Aside0.mk (below_drew1 HB.out)
   clear BK134
   clear BK141
   clear HB
   have BK134 := n0_
   have BK141 := n1_
   have HB := n2_
   clear n0_ n1_ n2_
   refine start_ (n := 11) (S := fun w' => w'.cell? ⟨gb141, 0, none⟩ = some (.string t138) ∧ w'.cell? ⟨gb141, 1, none⟩ = some (.string t139) ∧ w'.cell? ⟨gb141, 2, none⟩ = some (.string t136)) (ds := []) zm0_4 (by kernel_rfl) rfl rfl ⟨(blk_cell BK141.out 0).trans rfl, (blk_cell BK141.out 1).trans rfl, (blk_cell BK141.out 2).trans rfl⟩ (fun hHeld => ?_); refine with_tabW impl_readJid.tab6 impl_readJid.bits6 (fun HT_ HW_ => ?_)
   generalize w23.drew = w24 at BK134 BK141 HB hHeld ⊢
   refine take_ (i := 0) (N := some 30) (v := ?_) (a' := ?_) zm1_4 rfl rfl (take_ofW HT_.out HW_.out (by kernel_rfl)) (fun _ _ _ h => h) (Or.inl ⟨by rfl, ?_⟩) hHeld ?_ ?_
   rotate_left
   ·
    rintro w' ⟨s0, s1, s2⟩
    go_simp
    with_reducible rfl
   rotate_left
   ·
    simp only [Act.put, List.setIfInBounds_toArray, List.set_cons_zero, List.set_cons_succ, i64_w, i32_w]
    rfl
   refine take_ (i := 1) (N := some 31) (v := ?_) (a' := ?_) zm2_4 rfl rfl (take_ofW HT_.out HW_.out (by kernel_rfl)) (fun _ _ _ h => h) (Or.inl ⟨by rfl, ?_⟩) hHeld ?_ ?_
   rotate_left
   ·
    rintro w' ⟨s0, s1, s2⟩
    go_simp
    with_reducible rfl
   rotate_left
   ·
    simp only [Act.put, List.setIfInBounds_toArray, List.set_cons_zero, List.set_cons_succ, i64_w, i32_w]
    rfl
   refine one_ (i := 2) (N := some 32) zm3_4 rfl rfl (one_of HT_.out (by kernel_rfl)) (by decide) (fun K hK => ?_)
   refine goes_ Tryd.func83 (by kernel_rfl) rfl #[.agg #[.string t138, .string t139, .string t136]] (by rfl) rfl rfl zb2_4 ?_
   with_reducible refine (impl_JidRight.calls k t138 t139 t136 false _ A5.out zb3_4).mono ?_
   rintro e w25 ⟨rfl, hb⟩
   refine ⟨_, rfl, ?_⟩
   have n0_ := Aside0.mk (blk_below (g := gb134) (o := .cells #[.string (⟨#[]⟩ : ByteArray), .string (⟨#[]⟩ : ByteArray), .string (⟨#[]⟩ : ByteArray)] 100 (0, 0)) zb4_4 hb)
   have n1_ := Aside0.mk (blk_below (g := gb141) (o := .cells #[.string t138, .string t139, .string t136] 100 (0, 0)) zb9_4 hb)
   have n2_ := Aside0.mk (below_step zb10_4 hb)
   clear BK134
   clear BK141
   clear HB
   have BK134 := n0_
   have BK141 := n1_
   have HB := n2_
   clear n0_ n1_ n2_
   (try clear hb)
   (try clear hb2)
   (try clear hk)
   (try clear hi)
   refine hK.out _ _ ⟨(blk_cell BK141.out 0).trans rfl, (blk_cell BK141.out 1).trans rfl, (blk_cell BK141.out 2).trans rfl⟩ (fun hHeld => ?_)
   clear hK K
   refine norm_ (a' := ?_) ?_ ?_
   rotate_left
   ·
    show Act.put _ (some 32) _ = _
    simp only [Act.put, List.setIfInBounds_toArray, List.set_cons_zero, List.set_cons_succ, i64_w, i32_w]
    rfl
   refine zp_4 3 (some 33) zm4_4 HT_ ?_
   refine zu_4 4 (some 34) zm12_4 HT_ ?_
   refine zu_4 5 (some 35) zm13_4 HT_ ?_
   refine zu_4 6 (some 36) zm7_4 HT_ ?_
   refine zu_4 7 (some 37) zm8_4 HT_ ?_
   refine zp_4 8 (some 38) zm9_4 HT_ ?_
   refine one_ (i := 9) (N := none) zm10_4 rfl rfl (one_of HT_.out (by kernel_rfl)) (by decide) (fun K hK => ?_)
   have hs26 : w25.cell? ⟨gb134, 0, none⟩ = some (.string (⟨#[]⟩ : ByteArray)) := (blk_cell BK134.out 0).trans rfl
   have hfs26 := blk_frozen BK134.out 0
   have hns26_1 := NB141_134.out
   have hms26_1 := NB134_141.out
   have hs27 : w25.cell? ⟨gb134, 1, none⟩ = some (.string (⟨#[]⟩ : ByteArray)) := (blk_cell BK134.out 1).trans rfl
   have hfs27 := blk_frozen BK134.out 1
   have hns27_1 := NB141_134.out
   have hms27_1 := NB134_141.out
   have hs28 : w25.cell? ⟨gb134, 2, none⟩ = some (.string (⟨#[]⟩ : ByteArray)) := (blk_cell BK134.out 2).trans rfl
   have hfs28 := blk_frozen BK134.out 2
   have hns28_1 := NB141_134.out
   have hms28_1 := NB134_141.out
   refine skip_ (w1 := ?_) (by rfl) rfl ?_ ?_
   rotate_left
   ·
    go_simp
    rfl
   refine hK.out _ _ ⟨((cell_far (p := ⟨gb134, _, none⟩) NB141_134.out _).trans (((cell_far (p := ⟨gb134, _, none⟩) NB141_134.out _).trans (((cell_far (p := ⟨gb134, _, none⟩) NB141_134.out _).trans (hHeld.1)))))), ((cell_far (p := ⟨gb134, _, none⟩) NB141_134.out _).trans (((cell_far (p := ⟨gb134, _, none⟩) NB141_134.out _).trans (((cell_far (p := ⟨gb134, _, none⟩) NB141_134.out _).trans (hHeld.2.1)))))), ((cell_far (p := ⟨gb134, _, none⟩) NB141_134.out _).trans (((cell_far (p := ⟨gb134, _, none⟩) NB141_134.out _).trans (((cell_far (p := ⟨gb134, _, none⟩) NB141_134.out _).trans (hHeld.2.2))))))⟩ (fun hHeld => ?_)
   clear hK K
   refine zp_4 10 (some 3) zm11_4 HT_ ?_
   refine done_ (done_of HT_.out (by kernel_rfl)) ?_
   try go_wp2
   refine bodyPost_ret (results_ct rfl _ _ gb134 100 #[.string t138, .string t139, .string t136] (0, 0) _ rfl (by (with_reducible repeat (first | refine blk_drewN ?_ _ | refine blk_drew ?_ | refine blk_alloc ?_ _)); refine blk_put (cs := #[.string t138, .string t139, .string (⟨#[]⟩ : ByteArray)]) ?_ 2 _ rfl; (with_reducible repeat (first | refine blk_drewN ?_ _ | refine blk_drew ?_ | refine blk_alloc ?_ _)); refine blk_put (cs := #[.string t138, .string (⟨#[]⟩ : ByteArray), .string (⟨#[]⟩ : ByteArray)]) ?_ 1 _ rfl; (with_reducible repeat (first | refine blk_drewN ?_ _ | refine blk_drew ?_ | refine blk_alloc ?_ _)); refine blk_put (cs := #[.string (⟨#[]⟩ : ByteArray), .string (⟨#[]⟩ : ByteArray), .string (⟨#[]⟩ : ByteArray)]) ?_ 0 _ rfl; (with_reducible repeat (first | refine blk_drewN ?_ _ | refine blk_drew ?_ | refine blk_alloc ?_ _)); exact BK134.out) Tryd.underlying100 rfl (by kernel_rfl)) rfl ?_
   exact ⟨by first | rfl | (simp [errW_none, errW_some] <;> rfl) | (simp [*, errW_none, errW_some] <;> rfl), by repeat (first | (with_reducible first | exact HB.out | apply below_alloc | apply pw_below_drewN | apply below_drew1 | refine below_set ?_ GE134.out | refine below_set ?_ GE141.out) | exact HB.out)⟩
 ·
  replace c4 := Bool.eq_false_iff.mpr c4
  subst c4
  have H1 : ((impl_JidRight.f k (⟨#[]⟩ : ByteArray) t135 t136).bind fun t145 => (if t145 = true then ((impl_Jid_text.f (⟨#[]⟩ : ByteArray) t135 t136).bind fun t146 => (some ((⟨#[]⟩ : ByteArray), t135, t136, (t146.toList == a0.toList)))) else (some ((⟨#[]⟩ : ByteArray), t135, t136, false)))) = some (r1, r2, r3, r4) := by rw [if_neg (show ¬ (false = true) by decide)] at H; exact H
  clear H
  have H := H1
  clear H1
  replace H := Option.bind_eq_some_iff.mp H
  obtain ⟨t145, A290, H⟩ := H
  replace H : (if t145 = true then ((impl_Jid_text.f (⟨#[]⟩ : ByteArray) t135 t136).bind fun t146 => (some ((⟨#[]⟩ : ByteArray), t135, t136, (t146.toList == a0.toList)))) else (some ((⟨#[]⟩ : ByteArray), t135, t136, false))) = some (r1, r2, r3, r4) := H
  have A29 := Aside0.mk A290
  clear A290
  by_cases c30 : t145 = true
  ·
   subst c30
   have H1 : ((impl_Jid_text.f (⟨#[]⟩ : ByteArray) t135 t136).bind fun t146 => (some ((⟨#[]⟩ : ByteArray), t135, t136, (t146.toList == a0.toList)))) = some (r1, r2, r3, r4) := by rw [if_pos rfl] at H; exact H
   clear H
   have H := H1
   clear H1
   replace H := Option.bind_eq_some_iff.mp H
   obtain ⟨t146, A310, H⟩ := H
   replace H : (some ((⟨#[]⟩ : ByteArray), t135, t136, (t146.toList == a0.toList))) = some (r1, r2, r3, r4) := H
   have A31 := Aside0.mk A310
   clear A310
   simp only [Option.some.injEq, Prod.mk.injEq] at H
   obtain ⟨rfl, rfl, rfl, rfl⟩ := H
   go_enter Tryd.func72, Tryd.ntmps72
   try go_wp2_with (first | ((with_reducible refine gate_dst (N := 2) rfl ?_); refine box_event ?hg (N := 2) ?hd (cs := #[.string (⟨#[]⟩ : ByteArray), .string (⟨#[]⟩ : ByteArray), .string (⟨#[]⟩ : ByteArray)]) (t := 100) ?hr ?_; (case hd => rfl); (case hg => rfl); (case hr => first | (go_simp; done) | (go_simp; rfl)); intro gb134 hg w32 hbox hb; have n0_ := Aside0.mk (below_step zb0_4 hb); have n1_ := Aside0.mk (hbox); have n2_ := Aside0.mk ((zb1_4 : w.heap.size ≤ gb134)); have n3_ := Aside0.mk ((zb1_4 : w.heap.size ≤ gb134)); clear HB; have HB := n0_; have BK134 := n1_; have GW134 := n2_; have GE134 := n3_; clear n0_ n1_ n2_ n3_; clear hb hbox hg) | ((with_reducible refine gate_callee (f := 82) rfl ?_); refine goesL_ (some 13) rfl rfl Tryd.func82 (by kernel_rfl) rfl #[.string a0, .string (⟨#[47]⟩ : ByteArray)] rfl zb2_4 ?_; (with_reducible refine (strings_Cut.calls a0 (⟨#[47]⟩ : ByteArray) t135 t136 t137 _ A2.out zb3_4).mono ?_); rintro e w' ⟨rfl, ⟨nd, rfl⟩⟩; refine ⟨_, rfl, ?_⟩; (try (rw [drewN_self w32]; generalize hq_ : World.drewN w32 _ = w32; have n0_ : Aside0 (w32.heap[gb134]? = some (.cells #[.string (⟨#[]⟩ : ByteArray), .string (⟨#[]⟩ : ByteArray), .string (⟨#[]⟩ : ByteArray)] 100 (0, 0))) := ⟨by rw [← hq_]; exact zb4_4⟩; have n1_ : Aside0 (Below w.heap.size w w32) := ⟨by rw [← hq_]; exact zb5_4⟩; clear BK134 HB hq_; have BK134 := n0_; have HB := n1_; clear n0_ n1_))) | ((with_reducible refine gate_callee (f := 82) rfl ?_); refine goesL_ (some 19) rfl rfl Tryd.func82 (by kernel_rfl) rfl #[.string t135, .string (⟨#[64]⟩ : ByteArray)] rfl zb2_4 ?_; (with_reducible refine (strings_Cut.calls t135 (⟨#[64]⟩ : ByteArray) t138 t139 false _ A3.out zb3_4).mono ?_); rintro e w' ⟨rfl, ⟨nd, rfl⟩⟩; refine ⟨_, rfl, ?_⟩; (try (rw [drewN_self w32]; generalize hq_ : World.drewN w32 _ = w32; have n0_ : Aside0 (w32.heap[gb134]? = some (.cells #[.string (⟨#[]⟩ : ByteArray), .string (⟨#[]⟩ : ByteArray), .string (⟨#[]⟩ : ByteArray)] 100 (0, 0))) := ⟨by rw [← hq_]; exact zb4_4⟩; have n1_ : Aside0 (Below w.heap.size w w32) := ⟨by rw [← hq_]; exact zb5_4⟩; clear BK134 HB hq_; have BK134 := n0_; have HB := n1_; clear n0_ n1_))) | ((with_reducible refine gate_dst (N := 10) rfl ?_); refine box_event ?hg (N := 10) ?hd (cs := #[.string (⟨#[]⟩ : ByteArray), .string (⟨#[]⟩ : ByteArray), .string (⟨#[]⟩ : ByteArray)]) (t := 100) ?hr ?_; (case hd => rfl); (case hg => rfl); (case hr => first | (go_simp; done) | (go_simp; rfl)); intro gb144 hg w33 hbox hb; have n0_ := Aside0.mk (blk_below (g := gb134) (o := .cells #[.string (⟨#[]⟩ : ByteArray), .string (⟨#[]⟩ : ByteArray), .string (⟨#[]⟩ : ByteArray)] 100 (0, 0)) zb4_4 hb); have n1_ := Aside0.mk (below_step zb5_4 hb); have n2_ := Aside0.mk (hbox); have n3_ := Aside0.mk ((zb6_4 : w.heap.size ≤ gb144)); have n4_ := Aside0.mk ((zb6_4 : w.heap.size ≤ gb144)); have n5_ := Aside0.mk ((zb7_4 : gb134 ≠ gb144)); have n6_ := Aside0.mk ((zb8_4 : gb144 ≠ gb134)); clear BK134; clear HB; have BK134 := n0_; have HB := n1_; have BK144 := n2_; have GW144 := n3_; have GE144 := n4_; have NB134_144 := n5_; have NB144_134 := n6_; clear n0_ n1_ n2_ n3_ n4_ n5_ n6_; clear hb hbox hg; have hnb34 := NB144_134.out; have hnc34 := NB134_144.out; have hcz35_0 := bcq_4 BK144.out 0; have hcz35_1 := bcq_4 BK144.out 1; have hcz35_2 := bcq_4 BK144.out 2; have hfz35_0 := blk_frozen BK144.out 0; have hfz35_1 := blk_frozen BK144.out 1; have hfz35_2 := blk_frozen BK144.out 2))
   have n0_ : Aside0 ((((w33.setCell ⟨gb144, 0, none⟩ (.string (⟨#[]⟩ : ByteArray))).setCell ⟨gb144, 1, none⟩ (.string t135)).setCell ⟨gb144, 2, none⟩ (.string t136)).heap[gb134]? = some (.cells #[.string (⟨#[]⟩ : ByteArray), .string (⟨#[]⟩ : ByteArray), .string (⟨#[]⟩ : ByteArray)] 100 (0, 0))) := ⟨by (with_reducible repeat (first | refine blk_drewN ?_ _ | refine blk_drew ?_ | refine blk_alloc ?_ _)); refine blk_far ?_ NB134_144.out _; (with_reducible repeat (first | refine blk_drewN ?_ _ | refine blk_drew ?_ | refine blk_alloc ?_ _)); refine blk_far ?_ NB134_144.out _; (with_reducible repeat (first | refine blk_drewN ?_ _ | refine blk_drew ?_ | refine blk_alloc ?_ _)); refine blk_far ?_ NB134_144.out _; (with_reducible repeat (first | refine blk_drewN ?_ _ | refine blk_drew ?_ | refine blk_alloc ?_ _)); exact BK134.out⟩
   have n1_ : Aside0 ((((w33.setCell ⟨gb144, 0, none⟩ (.string (⟨#[]⟩ : ByteArray))).setCell ⟨gb144, 1, none⟩ (.string t135)).setCell ⟨gb144, 2, none⟩ (.string t136)).heap[gb144]? = some (.cells #[.string (⟨#[]⟩ : ByteArray), .string t135, .string t136] 100 (0, 0))) := ⟨by (with_reducible repeat (first | refine blk_drewN ?_ _ | refine blk_drew ?_ | refine blk_alloc ?_ _)); refine blk_put (cs := #[.string (⟨#[]⟩ : ByteArray), .string t135, .string (⟨#[]⟩ : ByteArray)]) ?_ 2 _ rfl; (with_reducible repeat (first | refine blk_drewN ?_ _ | refine blk_drew ?_ | refine blk_alloc ?_ _)); refine blk_put (cs := #[.string (⟨#[]⟩ : ByteArray), .string (⟨#[]⟩ : ByteArray), .string (⟨#[]⟩ : ByteArray)]) ?_ 1 _ rfl; (with_reducible repeat (first | refine blk_drewN ?_ _ | refine blk_drew ?_ | refine blk_alloc ?_ _)); refine blk_put (cs := #[.string (⟨#[]⟩ : ByteArray), .string (⟨#[]⟩ : ByteArray), .string (⟨#[]⟩ : ByteArray)]) ?_ 0 _ rfl; (with_reducible repeat (first | refine blk_drewN ?_ _ | refine blk_drew ?_ | refine blk_alloc ?_ _)); exact BK144.out⟩
   have n2_ : Aside0 (Below w.heap.size w (((w33.setCell ⟨gb144, 0, none⟩ (.string (⟨#[]⟩ : ByteArray))).setCell ⟨gb144, 1, none⟩ (.string t135)).setCell ⟨gb144, 2, none⟩ (.string t136))) := ⟨by repeat (first | (with_reducible first | exact HB.out | apply below_alloc | apply pw_below_drewN | apply below_drew1 | refine below_set ?_ GE134.out | refine below_set ?_ GE144.out) | exact HB.out)⟩
   (try clear BK134)
   (try clear BK144)
   (try clear HB)
   generalize (((w33.setCell ⟨gb144, 0, none⟩ (.string (⟨#[]⟩ : ByteArray))).setCell ⟨gb144, 1, none⟩ (.string t135)).setCell ⟨gb144, 2, none⟩ (.string t136)) = w36 at n0_ n1_ n2_ ⊢
   have BK134 := n0_
   have BK144 := n1_
   have HB := n2_
   clear n0_ n1_ n2_
   have n0_ := Aside0.mk (blk_drew BK134.out)
   have n1_ := Aside0.mk (blk_drew BK144.out)
   have n2_ := Aside0.mk (below_drew1 HB.out)
   clear BK134
   clear BK144
   clear HB
   have BK134 := n0_
   have BK144 := n1_
   have HB := n2_
   clear n0_ n1_ n2_
   refine start_ (n := 11) (S := fun w' => w'.cell? ⟨gb144, 0, none⟩ = some (.string (⟨#[]⟩ : ByteArray)) ∧ w'.cell? ⟨gb144, 1, none⟩ = some (.string t135) ∧ w'.cell? ⟨gb144, 2, none⟩ = some (.string t136)) (ds := []) zm0_4 (by kernel_rfl) rfl rfl ⟨(blk_cell BK144.out 0).trans rfl, (blk_cell BK144.out 1).trans rfl, (blk_cell BK144.out 2).trans rfl⟩ (fun hHeld => ?_); refine with_tabW impl_readJid.tab6 impl_readJid.bits6 (fun HT_ HW_ => ?_)
   generalize w36.drew = w37 at BK134 BK144 HB hHeld ⊢
   refine take_ (i := 0) (N := some 30) (v := ?_) (a' := ?_) zm1_4 rfl rfl (take_ofW HT_.out HW_.out (by kernel_rfl)) (fun _ _ _ h => h) (Or.inl ⟨by rfl, ?_⟩) hHeld ?_ ?_
   rotate_left
   ·
    rintro w' ⟨s0, s1, s2⟩
    go_simp
    with_reducible rfl
   rotate_left
   ·
    simp only [Act.put, List.setIfInBounds_toArray, List.set_cons_zero, List.set_cons_succ, i64_w, i32_w]
    rfl
   refine take_ (i := 1) (N := some 31) (v := ?_) (a' := ?_) zm2_4 rfl rfl (take_ofW HT_.out HW_.out (by kernel_rfl)) (fun _ _ _ h => h) (Or.inl ⟨by rfl, ?_⟩) hHeld ?_ ?_
   rotate_left
   ·
    rintro w' ⟨s0, s1, s2⟩
    go_simp
    with_reducible rfl
   rotate_left
   ·
    simp only [Act.put, List.setIfInBounds_toArray, List.set_cons_zero, List.set_cons_succ, i64_w, i32_w]
    rfl
   refine one_ (i := 2) (N := some 32) zm3_4 rfl rfl (one_of HT_.out (by kernel_rfl)) (by decide) (fun K hK => ?_)
   refine goes_ Tryd.func83 (by kernel_rfl) rfl #[.agg #[.string (⟨#[]⟩ : ByteArray), .string t135, .string t136]] (by rfl) rfl rfl zb2_4 ?_
   with_reducible refine (impl_JidRight.calls k (⟨#[]⟩ : ByteArray) t135 t136 true _ A29.out zb3_4).mono ?_
   rintro e w38 ⟨rfl, hb⟩
   refine ⟨_, rfl, ?_⟩
   have n0_ := Aside0.mk (blk_below (g := gb134) (o := .cells #[.string (⟨#[]⟩ : ByteArray), .string (⟨#[]⟩ : ByteArray), .string (⟨#[]⟩ : ByteArray)] 100 (0, 0)) zb4_4 hb)
   have n1_ := Aside0.mk (blk_below (g := gb144) (o := .cells #[.string (⟨#[]⟩ : ByteArray), .string t135, .string t136] 100 (0, 0)) zb11_4 hb)
   have n2_ := Aside0.mk (below_step zb12_4 hb)
   clear BK134
   clear BK144
   clear HB
   have BK134 := n0_
   have BK144 := n1_
   have HB := n2_
   clear n0_ n1_ n2_
   (try clear hb)
   (try clear hb2)
   (try clear hk)
   (try clear hi)
   refine hK.out _ _ ⟨(blk_cell BK144.out 0).trans rfl, (blk_cell BK144.out 1).trans rfl, (blk_cell BK144.out 2).trans rfl⟩ (fun hHeld => ?_)
   clear hK K
   refine norm_ (a' := ?_) ?_ ?_
   rotate_left
   ·
    show Act.put _ (some 32) _ = _
    simp only [Act.put, List.setIfInBounds_toArray, List.set_cons_zero, List.set_cons_succ, i64_w, i32_w]
    rfl
   refine zp_4 3 (some 33) zm4_4 HT_ ?_
   refine zp_4 6 (some 36) zm5_4 HT_ ?_
   refine take_ (i := 4) (N := some 34) (v := ?_) (a' := ?_) zm6_4 rfl rfl (take_ofW HT_.out HW_.out (by kernel_rfl)) (fun _ _ _ h => h) (Or.inl ⟨by rfl, ?_⟩) hHeld ?_ ?_
   rotate_left
   ·
    rintro w' ⟨s0, s1, s2⟩
    go_simp
    with_reducible rfl
   rotate_left
   ·
    simp only [Act.put, List.setIfInBounds_toArray, List.set_cons_zero, List.set_cons_succ, i64_w, i32_w]
    rfl
   refine one_ (i := 5) (N := some 35) zm7_4 rfl rfl (one_of HT_.out (by kernel_rfl)) (by decide) (fun K hK => ?_)
   refine goes_ Tryd.func84 (by kernel_rfl) rfl #[.agg #[.string (⟨#[]⟩ : ByteArray), .string t135, .string t136]] (by rfl) rfl rfl zb2_4 ?_
   with_reducible refine (impl_Jid_text.calls (⟨#[]⟩ : ByteArray) t135 t136 t146 _ A31.out).mono ?_
   rintro e w39 ⟨rfl, hb⟩
   refine ⟨_, rfl, ?_⟩
   have n0_ := Aside0.mk (blk_below (g := gb134) (o := .cells #[.string (⟨#[]⟩ : ByteArray), .string (⟨#[]⟩ : ByteArray), .string (⟨#[]⟩ : ByteArray)] 100 (0, 0)) zb4_4 hb)
   have n1_ := Aside0.mk (blk_below (g := gb144) (o := .cells #[.string (⟨#[]⟩ : ByteArray), .string t135, .string t136] 100 (0, 0)) zb11_4 hb)
   have n2_ := Aside0.mk (below_step zb12_4 hb)
   clear BK134
   clear BK144
   clear HB
   have BK134 := n0_
   have BK144 := n1_
   have HB := n2_
   clear n0_ n1_ n2_
   (try clear hb)
   (try clear hb2)
   (try clear hk)
   (try clear hi)
   refine hK.out _ _ ⟨(blk_cell BK144.out 0).trans rfl, (blk_cell BK144.out 1).trans rfl, (blk_cell BK144.out 2).trans rfl⟩ (fun hHeld => ?_)
   clear hK K
   refine norm_ (a' := ?_) ?_ ?_
   rotate_left
   ·
    show Act.put _ (some 35) _ = _
    simp only [Act.put, List.setIfInBounds_toArray, List.set_cons_zero, List.set_cons_succ, i64_w, i32_w]
    rfl
   refine zp_4 7 (some 37) zm8_4 HT_ ?_
   refine zp_4 8 (some 38) zm9_4 HT_ ?_
   refine one_ (i := 9) (N := none) zm10_4 rfl rfl (one_of HT_.out (by kernel_rfl)) (by decide) (fun K hK => ?_)
   have hs40 : w39.cell? ⟨gb134, 0, none⟩ = some (.string (⟨#[]⟩ : ByteArray)) := (blk_cell BK134.out 0).trans rfl
   have hfs40 := blk_frozen BK134.out 0
   have hns40_1 := NB144_134.out
   have hms40_1 := NB134_144.out
   have hs41 : w39.cell? ⟨gb134, 1, none⟩ = some (.string (⟨#[]⟩ : ByteArray)) := (blk_cell BK134.out 1).trans rfl
   have hfs41 := blk_frozen BK134.out 1
   have hns41_1 := NB144_134.out
   have hms41_1 := NB134_144.out
   have hs42 : w39.cell? ⟨gb134, 2, none⟩ = some (.string (⟨#[]⟩ : ByteArray)) := (blk_cell BK134.out 2).trans rfl
   have hfs42 := blk_frozen BK134.out 2
   have hns42_1 := NB144_134.out
   have hms42_1 := NB134_144.out
   refine skip_ (w1 := ?_) (by rfl) rfl ?_ ?_
   rotate_left
   ·
    go_simp
    rfl
   refine hK.out _ _ ⟨((cell_far (p := ⟨gb134, _, none⟩) NB144_134.out _).trans (((cell_far (p := ⟨gb134, _, none⟩) NB144_134.out _).trans (((cell_far (p := ⟨gb134, _, none⟩) NB144_134.out _).trans (hHeld.1)))))), ((cell_far (p := ⟨gb134, _, none⟩) NB144_134.out _).trans (((cell_far (p := ⟨gb134, _, none⟩) NB144_134.out _).trans (((cell_far (p := ⟨gb134, _, none⟩) NB144_134.out _).trans (hHeld.2.1)))))), ((cell_far (p := ⟨gb134, _, none⟩) NB144_134.out _).trans (((cell_far (p := ⟨gb134, _, none⟩) NB144_134.out _).trans (((cell_far (p := ⟨gb134, _, none⟩) NB144_134.out _).trans (hHeld.2.2))))))⟩ (fun hHeld => ?_)
   clear hK K
   refine zp_4 10 (some 3) zm11_4 HT_ ?_
   refine done_ (done_of HT_.out (by kernel_rfl)) ?_
   try go_wp2
   refine bodyPost_ret (results_ct rfl _ _ gb134 100 #[.string (⟨#[]⟩ : ByteArray), .string t135, .string t136] (0, 0) _ rfl (by (with_reducible repeat (first | refine blk_drewN ?_ _ | refine blk_drew ?_ | refine blk_alloc ?_ _)); refine blk_put (cs := #[.string (⟨#[]⟩ : ByteArray), .string t135, .string (⟨#[]⟩ : ByteArray)]) ?_ 2 _ rfl; (with_reducible repeat (first | refine blk_drewN ?_ _ | refine blk_drew ?_ | refine blk_alloc ?_ _)); refine blk_put (cs := #[.string (⟨#[]⟩ : ByteArray), .string (⟨#[]⟩ : ByteArray), .string (⟨#[]⟩ : ByteArray)]) ?_ 1 _ rfl; (with_reducible repeat (first | refine blk_drewN ?_ _ | refine blk_drew ?_ | refine blk_alloc ?_ _)); refine blk_put (cs := #[.string (⟨#[]⟩ : ByteArray), .string (⟨#[]⟩ : ByteArray), .string (⟨#[]⟩ : ByteArray)]) ?_ 0 _ rfl; (with_reducible repeat (first | refine blk_drewN ?_ _ | refine blk_drew ?_ | refine blk_alloc ?_ _)); exact BK134.out) Tryd.underlying100 rfl (by kernel_rfl)) rfl ?_
   exact ⟨by first | rfl | (simp [errW_none, errW_some] <;> rfl) | (simp [*, errW_none, errW_some] <;> rfl), by repeat (first | (with_reducible first | exact HB.out | apply below_alloc | apply pw_below_drewN | apply below_drew1 | refine below_set ?_ GE134.out | refine below_set ?_ GE144.out) | exact HB.out)⟩
  ·
   replace c30 := Bool.eq_false_iff.mpr c30
   subst c30
   have H1 : (some ((⟨#[]⟩ : ByteArray), t135, t136, false)) = some (r1, r2, r3, r4) := by rw [if_neg (show ¬ (false = true) by decide)] at H; exact H
   clear H
   have H := H1
   clear H1
   simp only [Option.some.injEq, Prod.mk.injEq] at H
   obtain ⟨rfl, rfl, rfl, rfl⟩ := H
   go_enter Tryd.func72, Tryd.ntmps72
   try go_wp2_with (first | ((with_reducible refine gate_dst (N := 2) rfl ?_); refine box_event ?hg (N := 2) ?hd (cs := #[.string (⟨#[]⟩ : ByteArray), .string (⟨#[]⟩ : ByteArray), .string (⟨#[]⟩ : ByteArray)]) (t := 100) ?hr ?_; (case hd => rfl); (case hg => rfl); (case hr => first | (go_simp; done) | (go_simp; rfl)); intro gb134 hg w43 hbox hb; have n0_ := Aside0.mk (below_step zb0_4 hb); have n1_ := Aside0.mk (hbox); have n2_ := Aside0.mk ((zb1_4 : w.heap.size ≤ gb134)); have n3_ := Aside0.mk ((zb1_4 : w.heap.size ≤ gb134)); clear HB; have HB := n0_; have BK134 := n1_; have GW134 := n2_; have GE134 := n3_; clear n0_ n1_ n2_ n3_; clear hb hbox hg) | ((with_reducible refine gate_callee (f := 82) rfl ?_); refine goesL_ (some 13) rfl rfl Tryd.func82 (by kernel_rfl) rfl #[.string a0, .string (⟨#[47]⟩ : ByteArray)] rfl zb2_4 ?_; (with_reducible refine (strings_Cut.calls a0 (⟨#[47]⟩ : ByteArray) t135 t136 t137 _ A2.out zb3_4).mono ?_); rintro e w' ⟨rfl, ⟨nd, rfl⟩⟩; refine ⟨_, rfl, ?_⟩; (try (rw [drewN_self w43]; generalize hq_ : World.drewN w43 _ = w43; have n0_ : Aside0 (w43.heap[gb134]? = some (.cells #[.string (⟨#[]⟩ : ByteArray), .string (⟨#[]⟩ : ByteArray), .string (⟨#[]⟩ : ByteArray)] 100 (0, 0))) := ⟨by rw [← hq_]; exact zb4_4⟩; have n1_ : Aside0 (Below w.heap.size w w43) := ⟨by rw [← hq_]; exact zb5_4⟩; clear BK134 HB hq_; have BK134 := n0_; have HB := n1_; clear n0_ n1_))) | ((with_reducible refine gate_callee (f := 82) rfl ?_); refine goesL_ (some 19) rfl rfl Tryd.func82 (by kernel_rfl) rfl #[.string t135, .string (⟨#[64]⟩ : ByteArray)] rfl zb2_4 ?_; (with_reducible refine (strings_Cut.calls t135 (⟨#[64]⟩ : ByteArray) t138 t139 false _ A3.out zb3_4).mono ?_); rintro e w' ⟨rfl, ⟨nd, rfl⟩⟩; refine ⟨_, rfl, ?_⟩; (try (rw [drewN_self w43]; generalize hq_ : World.drewN w43 _ = w43; have n0_ : Aside0 (w43.heap[gb134]? = some (.cells #[.string (⟨#[]⟩ : ByteArray), .string (⟨#[]⟩ : ByteArray), .string (⟨#[]⟩ : ByteArray)] 100 (0, 0))) := ⟨by rw [← hq_]; exact zb4_4⟩; have n1_ : Aside0 (Below w.heap.size w w43) := ⟨by rw [← hq_]; exact zb5_4⟩; clear BK134 HB hq_; have BK134 := n0_; have HB := n1_; clear n0_ n1_))) | ((with_reducible refine gate_dst (N := 10) rfl ?_); refine box_event ?hg (N := 10) ?hd (cs := #[.string (⟨#[]⟩ : ByteArray), .string (⟨#[]⟩ : ByteArray), .string (⟨#[]⟩ : ByteArray)]) (t := 100) ?hr ?_; (case hd => rfl); (case hg => rfl); (case hr => first | (go_simp; done) | (go_simp; rfl)); intro gb144 hg w44 hbox hb; have n0_ := Aside0.mk (blk_below (g := gb134) (o := .cells #[.string (⟨#[]⟩ : ByteArray), .string (⟨#[]⟩ : ByteArray), .string (⟨#[]⟩ : ByteArray)] 100 (0, 0)) zb4_4 hb); have n1_ := Aside0.mk (below_step zb5_4 hb); have n2_ := Aside0.mk (hbox); have n3_ := Aside0.mk ((zb6_4 : w.heap.size ≤ gb144)); have n4_ := Aside0.mk ((zb6_4 : w.heap.size ≤ gb144)); have n5_ := Aside0.mk ((zb7_4 : gb134 ≠ gb144)); have n6_ := Aside0.mk ((zb8_4 : gb144 ≠ gb134)); clear BK134; clear HB; have BK134 := n0_; have HB := n1_; have BK144 := n2_; have GW144 := n3_; have GE144 := n4_; have NB134_144 := n5_; have NB144_134 := n6_; clear n0_ n1_ n2_ n3_ n4_ n5_ n6_; clear hb hbox hg; have hnb45 := NB144_134.out; have hnc45 := NB134_144.out; have hcz46_0 := bcq_4 BK144.out 0; have hcz46_1 := bcq_4 BK144.out 1; have hcz46_2 := bcq_4 BK144.out 2; have hfz46_0 := blk_frozen BK144.out 0; have hfz46_1 := blk_frozen BK144.out 1; have hfz46_2 := blk_frozen BK144.out 2))
   have n0_ : Aside0 ((((w44.setCell ⟨gb144, 0, none⟩ (.string (⟨#[]⟩ : ByteArray))).setCell ⟨gb144, 1, none⟩ (.string t135)).setCell ⟨gb144, 2, none⟩ (.string t136)).heap[gb134]? = some (.cells #[.string (⟨#[]⟩ : ByteArray), .string (⟨#[]⟩ : ByteArray), .string (⟨#[]⟩ : ByteArray)] 100 (0, 0))) := ⟨by (with_reducible repeat (first | refine blk_drewN ?_ _ | refine blk_drew ?_ | refine blk_alloc ?_ _)); refine blk_far ?_ NB134_144.out _; (with_reducible repeat (first | refine blk_drewN ?_ _ | refine blk_drew ?_ | refine blk_alloc ?_ _)); refine blk_far ?_ NB134_144.out _; (with_reducible repeat (first | refine blk_drewN ?_ _ | refine blk_drew ?_ | refine blk_alloc ?_ _)); refine blk_far ?_ NB134_144.out _; (with_reducible repeat (first | refine blk_drewN ?_ _ | refine blk_drew ?_ | refine blk_alloc ?_ _)); exact BK134.out⟩
   have n1_ : Aside0 ((((w44.setCell ⟨gb144, 0, none⟩ (.string (⟨#[]⟩ : ByteArray))).setCell ⟨gb144, 1, none⟩ (.string t135)).setCell ⟨gb144, 2, none⟩ (.string t136)).heap[gb144]? = some (.cells #[.string (⟨#[]⟩ : ByteArray), .string t135, .string t136] 100 (0, 0))) := ⟨by (with_reducible repeat (first | refine blk_drewN ?_ _ | refine blk_drew ?_ | refine blk_alloc ?_ _)); refine blk_put (cs := #[.string (⟨#[]⟩ : ByteArray), .string t135, .string (⟨#[]⟩ : ByteArray)]) ?_ 2 _ rfl; (with_reducible repeat (first | refine blk_drewN ?_ _ | refine blk_drew ?_ | refine blk_alloc ?_ _)); refine blk_put (cs := #[.string (⟨#[]⟩ : ByteArray), .string (⟨#[]⟩ : ByteArray), .string (⟨#[]⟩ : ByteArray)]) ?_ 1 _ rfl; (with_reducible repeat (first | refine blk_drewN ?_ _ | refine blk_drew ?_ | refine blk_alloc ?_ _)); refine blk_put (cs := #[.string (⟨#[]⟩ : ByteArray), .string (⟨#[]⟩ : ByteArray), .string (⟨#[]⟩ : ByteArray)]) ?_ 0 _ rfl; (with_reducible repeat (first | refine blk_drewN ?_ _ | refine blk_drew ?_ | refine blk_alloc ?_ _)); exact BK144.out⟩
   have n2_ : Aside0 (Below w.heap.size w (((w44.setCell ⟨gb144, 0, none⟩ (.string (⟨#[]⟩ : ByteArray))).setCell ⟨gb144, 1, none⟩ (.string t135)).setCell ⟨gb144, 2, none⟩ (.string t136))) := ⟨by repeat (first | (with_reducible first | exact HB.out | apply below_alloc | apply pw_below_drewN | apply below_drew1 | refine below_set ?_ GE134.out | refine below_set ?_ GE144.out) | exact HB.out)⟩
   (try clear BK134)
   (try clear BK144)
   (try clear HB)
   generalize (((w44.setCell ⟨gb144, 0, none⟩ (.string (⟨#[]⟩ : ByteArray))).setCell ⟨gb144, 1, none⟩ (.string t135)).setCell ⟨gb144, 2, none⟩ (.string t136)) = w47 at n0_ n1_ n2_ ⊢
   have BK134 := n0_
   have BK144 := n1_
   have HB := n2_
   clear n0_ n1_ n2_
   have n0_ := Aside0.mk (blk_drew BK134.out)
   have n1_ := Aside0.mk (blk_drew BK144.out)
   have n2_ := Aside0.mk (below_drew1 HB.out)
   clear BK134
   clear BK144
   clear HB
   have BK134 := n0_
   have BK144 := n1_
   have HB := n2_
   clear n0_ n1_ n2_
   refine start_ (n := 11) (S := fun w' => w'.cell? ⟨gb144, 0, none⟩ = some (.string (⟨#[]⟩ : ByteArray)) ∧ w'.cell? ⟨gb144, 1, none⟩ = some (.string t135) ∧ w'.cell? ⟨gb144, 2, none⟩ = some (.string t136)) (ds := []) zm0_4 (by kernel_rfl) rfl rfl ⟨(blk_cell BK144.out 0).trans rfl, (blk_cell BK144.out 1).trans rfl, (blk_cell BK144.out 2).trans rfl⟩ (fun hHeld => ?_); refine with_tabW impl_readJid.tab6 impl_readJid.bits6 (fun HT_ HW_ => ?_)
   generalize w47.drew = w48 at BK134 BK144 HB hHeld ⊢
   refine take_ (i := 0) (N := some 30) (v := ?_) (a' := ?_) zm1_4 rfl rfl (take_ofW HT_.out HW_.out (by kernel_rfl)) (fun _ _ _ h => h) (Or.inl ⟨by rfl, ?_⟩) hHeld ?_ ?_
   rotate_left
   ·
    rintro w' ⟨s0, s1, s2⟩
    go_simp
    with_reducible rfl
   rotate_left
   ·
    simp only [Act.put, List.setIfInBounds_toArray, List.set_cons_zero, List.set_cons_succ, i64_w, i32_w]
    rfl
   refine take_ (i := 1) (N := some 31) (v := ?_) (a' := ?_) zm2_4 rfl rfl (take_ofW HT_.out HW_.out (by kernel_rfl)) (fun _ _ _ h => h) (Or.inl ⟨by rfl, ?_⟩) hHeld ?_ ?_
   rotate_left
   ·
    rintro w' ⟨s0, s1, s2⟩
    go_simp
    with_reducible rfl
   rotate_left
   ·
    simp only [Act.put, List.setIfInBounds_toArray, List.set_cons_zero, List.set_cons_succ, i64_w, i32_w]
    rfl
   refine one_ (i := 2) (N := some 32) zm3_4 rfl rfl (one_of HT_.out (by kernel_rfl)) (by decide) (fun K hK => ?_)
   refine goes_ Tryd.func83 (by kernel_rfl) rfl #[.agg #[.string (⟨#[]⟩ : ByteArray), .string t135, .string t136]] (by rfl) rfl rfl zb2_4 ?_
   with_reducible refine (impl_JidRight.calls k (⟨#[]⟩ : ByteArray) t135 t136 false _ A29.out zb3_4).mono ?_
   rintro e w49 ⟨rfl, hb⟩
   refine ⟨_, rfl, ?_⟩
   have n0_ := Aside0.mk (blk_below (g := gb134) (o := .cells #[.string (⟨#[]⟩ : ByteArray), .string (⟨#[]⟩ : ByteArray), .string (⟨#[]⟩ : ByteArray)] 100 (0, 0)) zb4_4 hb)
   have n1_ := Aside0.mk (blk_below (g := gb144) (o := .cells #[.string (⟨#[]⟩ : ByteArray), .string t135, .string t136] 100 (0, 0)) zb11_4 hb)
   have n2_ := Aside0.mk (below_step zb12_4 hb)
   clear BK134
   clear BK144
   clear HB
   have BK134 := n0_
   have BK144 := n1_
   have HB := n2_
   clear n0_ n1_ n2_
   (try clear hb)
   (try clear hb2)
   (try clear hk)
   (try clear hi)
   refine hK.out _ _ ⟨(blk_cell BK144.out 0).trans rfl, (blk_cell BK144.out 1).trans rfl, (blk_cell BK144.out 2).trans rfl⟩ (fun hHeld => ?_)
   clear hK K
   refine norm_ (a' := ?_) ?_ ?_
   rotate_left
   ·
    show Act.put _ (some 32) _ = _
    simp only [Act.put, List.setIfInBounds_toArray, List.set_cons_zero, List.set_cons_succ, i64_w, i32_w]
    rfl
   refine zp_4 3 (some 33) zm4_4 HT_ ?_
   refine zu_4 4 (some 34) zm12_4 HT_ ?_
   refine zu_4 5 (some 35) zm13_4 HT_ ?_
   refine zu_4 6 (some 36) zm7_4 HT_ ?_
   refine zu_4 7 (some 37) zm8_4 HT_ ?_
   refine zp_4 8 (some 38) zm9_4 HT_ ?_
   refine one_ (i := 9) (N := none) zm10_4 rfl rfl (one_of HT_.out (by kernel_rfl)) (by decide) (fun K hK => ?_)
   have hs50 : w49.cell? ⟨gb134, 0, none⟩ = some (.string (⟨#[]⟩ : ByteArray)) := (blk_cell BK134.out 0).trans rfl
   have hfs50 := blk_frozen BK134.out 0
   have hns50_1 := NB144_134.out
   have hms50_1 := NB134_144.out
   have hs51 : w49.cell? ⟨gb134, 1, none⟩ = some (.string (⟨#[]⟩ : ByteArray)) := (blk_cell BK134.out 1).trans rfl
   have hfs51 := blk_frozen BK134.out 1
   have hns51_1 := NB144_134.out
   have hms51_1 := NB134_144.out
   have hs52 : w49.cell? ⟨gb134, 2, none⟩ = some (.string (⟨#[]⟩ : ByteArray)) := (blk_cell BK134.out 2).trans rfl
   have hfs52 := blk_frozen BK134.out 2
   have hns52_1 := NB144_134.out
   have hms52_1 := NB134_144.out
   refine skip_ (w1 := ?_) (by rfl) rfl ?_ ?_
   rotate_left
   ·
    go_simp
    rfl
   refine hK.out _ _ ⟨((cell_far (p := ⟨gb134, _, none⟩) NB144_134.out _).trans (((cell_far (p := ⟨gb134, _, none⟩) NB144_134.out _).trans (((cell_far (p := ⟨gb134, _, none⟩) NB144_134.out _).trans (hHeld.1)))))), ((cell_far (p := ⟨gb134, _, none⟩) NB144_134.out _).trans (((cell_far (p := ⟨gb134, _, none⟩) NB144_134.out _).trans (((cell_far (p := ⟨gb134, _, none⟩) NB144_134.out _).trans (hHeld.2.1)))))), ((cell_far (p := ⟨gb134, _, none⟩) NB144_134.out _).trans (((cell_far (p := ⟨gb134, _, none⟩) NB144_134.out _).trans (((cell_far (p := ⟨gb134, _, none⟩) NB144_134.out _).trans (hHeld.2.2))))))⟩ (fun hHeld => ?_)
   clear hK K
   refine zp_4 10 (some 3) zm11_4 HT_ ?_
   refine done_ (done_of HT_.out (by kernel_rfl)) ?_
   try go_wp2
   refine bodyPost_ret (results_ct rfl _ _ gb134 100 #[.string (⟨#[]⟩ : ByteArray), .string t135, .string t136] (0, 0) _ rfl (by (with_reducible repeat (first | refine blk_drewN ?_ _ | refine blk_drew ?_ | refine blk_alloc ?_ _)); refine blk_put (cs := #[.string (⟨#[]⟩ : ByteArray), .string t135, .string (⟨#[]⟩ : ByteArray)]) ?_ 2 _ rfl; (with_reducible repeat (first | refine blk_drewN ?_ _ | refine blk_drew ?_ | refine blk_alloc ?_ _)); refine blk_put (cs := #[.string (⟨#[]⟩ : ByteArray), .string (⟨#[]⟩ : ByteArray), .string (⟨#[]⟩ : ByteArray)]) ?_ 1 _ rfl; (with_reducible repeat (first | refine blk_drewN ?_ _ | refine blk_drew ?_ | refine blk_alloc ?_ _)); refine blk_put (cs := #[.string (⟨#[]⟩ : ByteArray), .string (⟨#[]⟩ : ByteArray), .string (⟨#[]⟩ : ByteArray)]) ?_ 0 _ rfl; (with_reducible repeat (first | refine blk_drewN ?_ _ | refine blk_drew ?_ | refine blk_alloc ?_ _)); exact BK134.out) Tryd.underlying100 rfl (by kernel_rfl)) rfl ?_
   exact ⟨by first | rfl | (simp [errW_none, errW_some] <;> rfl) | (simp [*, errW_none, errW_some] <;> rfl), by repeat (first | (with_reducible first | exact HB.out | apply below_alloc | apply pw_below_drewN | apply below_drew1 | refine below_set ?_ GE134.out | refine below_set ?_ GE144.out) | exact HB.out)⟩

/-! ### impl_isDomain: function 49 -/
def impl_isDomain.f (k : Nat) (a0 : ByteArray) : Option (Bool) := (impl_readJid.f k a0).bind fun bt147 => (if bt147.2.2.2 = true then (if bt147.1.toList = ([] : List UInt8) then (some (bt147.2.2.1.toList == ([] : List UInt8))) else (some false)) else (some false))
theorem impl_isDomain.mono : ∀ a0 k, LeO (impl_isDomain.f k a0) (impl_isDomain.f (k + 1) a0) := by
 intro a0 k
 unfold impl_isDomain.f
 repeat' first
   | (with_reducible exact impl_readJid.mono _ _)
   | (with_reducible exact LeO.refl _)
   | (with_reducible exact LeO.none _)
   | (with_reducible refine LeO.ite ?_ ?_)
   | (with_reducible refine LeO.bind ?_ (fun _ => ?_))
   | exact impl_readJid.mono _ _
   | exact LeO.none _
   | refine LeO.ite ?_ ?_
   | refine LeO.bind ?_ (fun _ => ?_)
set_option maxHeartbeats 8000000 in
set_option maxRecDepth 100000 in
theorem impl_isDomain.calls (k : Nat) (a0 : ByteArray) (r : Bool) (w : World) (h : impl_isDomain.f k a0 = some r) (hmx : MaxIs w) :
  Calls Tryd.prog 49 #[.string a0] w fun e w' => e = .returned (.bool r) ∧ Below w.heap.size w w' := by
 have hu100 := Tryd.underlying100
 have HB := Aside0.mk (Below.refl w.heap.size w)
 have H : ((impl_readJid.f k a0).bind fun bt147 => (if bt147.2.2.2 = true then (if bt147.1.toList = ([] : List UInt8) then (some (bt147.2.2.1.toList == ([] : List UInt8))) else (some false)) else (some false))) = some r := h
 clear h
 replace H := Option.bind_eq_some_iff.mp H
 obtain ⟨⟨t147, t148, t149, t150⟩, A20, H⟩ := H
 replace H : (if t150 = true then (if t147.toList = ([] : List UInt8) then (some (t149.toList == ([] : List UInt8))) else (some false)) else (some false)) = some r := H
 have A2 := Aside0.mk A20
 clear A20
 by_cases c3 : t150 = true
 ·
  subst c3
  have H1 : (if t147.toList = ([] : List UInt8) then (some (t149.toList == ([] : List UInt8))) else (some false)) = some r := by rw [if_pos rfl] at H; exact H
  clear H
  have H := H1
  clear H1
  by_cases c4 : t147.toList = ([] : List UInt8)
  ·
   rw [if_pos c4] at H
   have c4b0 : (t147.toList == ([] : List UInt8)) = true := beq_iff_eq.mpr c4
   have c4b1 : (t147.toList != ([] : List UInt8)) = false := bne_eq_false_iff_eq.mpr c4
   clear c4
   obtain rfl := Option.some.inj H
   go_enter Tryd.func49, Tryd.ntmps49
   go_wp2_with (first | ((with_reducible refine gate_callee (f := 72) rfl ?_); refine goesL_ (some 7) rfl rfl Tryd.func72 (by kernel_rfl) rfl #[.string a0] rfl zb2_4 ?_; (with_reducible refine (impl_readJid.calls k a0 t147 t148 t149 true _ A2.out zb13_4).mono ?_); rintro e w5 ⟨rfl, hb⟩; refine ⟨_, rfl, ?_⟩; have n0_ := Aside0.mk (below_step zb0_4 hb); clear HB; have HB := n0_; clear n0_; (try clear hb); (try clear hb2); (try clear hk); (try clear hi)) | ((with_reducible refine gate_dst (N := 3) rfl ?_); refine box_event ?hg (N := 3) ?hd (cs := #[.string (⟨#[]⟩ : ByteArray), .string (⟨#[]⟩ : ByteArray), .string (⟨#[]⟩ : ByteArray)]) (t := 100) ?hr ?_; (case hd => rfl); (case hg => rfl); (case hr => first | (go_simp; done) | (go_simp; rfl)); intro gb151 hg w6 hbox hb; have n0_ := Aside0.mk (below_step zb0_4 hb); have n1_ := Aside0.mk (hbox); have n2_ := Aside0.mk ((zb1_4 : w.heap.size ≤ gb151)); have n3_ := Aside0.mk ((zb1_4 : w.heap.size ≤ gb151)); clear HB; have HB := n0_; have BK151 := n1_; have GW151 := n2_; have GE151 := n3_; clear n0_ n1_ n2_ n3_; clear hb hbox hg; have hcz7_0 := bcq_4 BK151.out 0; have hcz7_1 := bcq_4 BK151.out 1; have hcz7_2 := bcq_4 BK151.out 2; have hfz7_0 := blk_frozen BK151.out 0; have hfz7_1 := blk_frozen BK151.out 1; have hfz7_2 := blk_frozen BK151.out 2))
   go_ret
   exact ⟨by first | rfl | (simp [errW_none, errW_some] <;> rfl) | (simp [*, errW_none, errW_some] <;> rfl), by repeat (first | (with_reducible first | exact HB.out | apply below_alloc | apply pw_below_drewN | apply below_drew1 | refine below_set ?_ GE151.out) | exact HB.out)⟩
  ·
   rw [if_neg c4] at H
   have c4b0 : (t147.toList == ([] : List UInt8)) = false := beq_eq_false_iff_ne.mpr c4
   have c4b1 : (t147.toList != ([] : List UInt8)) = true := bne_iff_ne.mpr c4
   obtain rfl := Option.some.inj H
   go_enter Tryd.func49, Tryd.ntmps49
   go_wp2_with (first | ((with_reducible refine gate_callee (f := 72) rfl ?_); refine goesL_ (some 7) rfl rfl Tryd.func72 (by kernel_rfl) rfl #[.string a0] rfl zb2_4 ?_; (with_reducible refine (impl_readJid.calls k a0 t147 t148 t149 true _ A2.out zb13_4).mono ?_); rintro e w8 ⟨rfl, hb⟩; refine ⟨_, rfl, ?_⟩; have n0_ := Aside0.mk (below_step zb0_4 hb); clear HB; have HB := n0_; clear n0_; (try clear hb); (try clear hb2); (try clear hk); (try clear hi)) | ((with_reducible refine gate_dst (N := 3) rfl ?_); refine box_event ?hg (N := 3) ?hd (cs := #[.string (⟨#[]⟩ : ByteArray), .string (⟨#[]⟩ : ByteArray), .string (⟨#[]⟩ : ByteArray)]) (t := 100) ?hr ?_; (case hd => rfl); (case hg => rfl); (case hr => first | (go_simp; done) | (go_simp; rfl)); intro gb151 hg w9 hbox hb; have n0_ := Aside0.mk (below_step zb0_4 hb); have n1_ := Aside0.mk (hbox); have n2_ := Aside0.mk ((zb1_4 : w.heap.size ≤ gb151)); have n3_ := Aside0.mk ((zb1_4 : w.heap.size ≤ gb151)); clear HB; have HB := n0_; have BK151 := n1_; have GW151 := n2_; have GE151 := n3_; clear n0_ n1_ n2_ n3_; clear hb hbox hg; have hcz10_0 := bcq_4 BK151.out 0; have hcz10_1 := bcq_4 BK151.out 1; have hcz10_2 := bcq_4 BK151.out 2; have hfz10_0 := blk_frozen BK151.out 0; have hfz10_1 := blk_frozen BK151.out 1; have hfz10_2 := blk_frozen BK151.out 2))
   go_ret
   exact ⟨by first | rfl | (simp [errW_none, errW_some] <;> rfl) | (simp [*, errW_none, errW_some] <;> rfl), by repeat (first | (with_reducible first | exact HB.out | apply below_alloc | apply pw_below_drewN | apply below_drew1 | refine below_set ?_ GE151.out) | exact HB.out)⟩
 ·
  replace c3 := Bool.eq_false_iff.mpr c3
  subst c3
  have H1 : (some false) = some r := by rw [if_neg (show ¬ (false = true) by decide)] at H; exact H
  clear H
  have H := H1
  clear H1
  obtain rfl := Option.some.inj H
  go_enter Tryd.func49, Tryd.ntmps49
  go_wp2_with (first | ((with_reducible refine gate_callee (f := 72) rfl ?_); refine goesL_ (some 7) rfl rfl Tryd.func72 (by kernel_rfl) rfl #[.string a0] rfl zb2_4 ?_; (with_reducible refine (impl_readJid.calls k a0 t147 t148 t149 false _ A2.out zb13_4).mono ?_); rintro e w11 ⟨rfl, hb⟩; refine ⟨_, rfl, ?_⟩; have n0_ := Aside0.mk (below_step zb0_4 hb); clear HB; have HB := n0_; clear n0_; (try clear hb); (try clear hb2); (try clear hk); (try clear hi)) | ((with_reducible refine gate_dst (N := 3) rfl ?_); refine box_event ?hg (N := 3) ?hd (cs := #[.string (⟨#[]⟩ : ByteArray), .string (⟨#[]⟩ : ByteArray), .string (⟨#[]⟩ : ByteArray)]) (t := 100) ?hr ?_; (case hd => rfl); (case hg => rfl); (case hr => first | (go_simp; done) | (go_simp; rfl)); intro gb151 hg w12 hbox hb; have n0_ := Aside0.mk (below_step zb0_4 hb); have n1_ := Aside0.mk (hbox); have n2_ := Aside0.mk ((zb1_4 : w.heap.size ≤ gb151)); have n3_ := Aside0.mk ((zb1_4 : w.heap.size ≤ gb151)); clear HB; have HB := n0_; have BK151 := n1_; have GW151 := n2_; have GE151 := n3_; clear n0_ n1_ n2_ n3_; clear hb hbox hg; have hcz13_0 := bcq_4 BK151.out 0; have hcz13_1 := bcq_4 BK151.out 1; have hcz13_2 := bcq_4 BK151.out 2; have hfz13_0 := blk_frozen BK151.out 0; have hfz13_1 := blk_frozen BK151.out 1; have hfz13_2 := blk_frozen BK151.out 2))
  go_ret
  exact ⟨by first | rfl | (simp [errW_none, errW_some] <;> rfl) | (simp [*, errW_none, errW_some] <;> rfl), by repeat (first | (with_reducible first | exact HB.out | apply below_alloc | apply pw_below_drewN | apply below_drew1 | refine below_set ?_ GE151.out) | exact HB.out)⟩

/-! ### impl_headRight: function 44 -/
def impl_headRight.f (k : Nat) (a0_0 : ByteArray) (a0_1 : ByteArray) (a0_2 : Int) : Option (Bool) := (impl_isDomain.f k a0_0).bind fun t153 => (if t153 = true then ((impl_isDomain.f k a0_1).bind fun t154 => (if t154 = true then ((impl_in.f a0_2 1 1000000000).bind fun t155 => (some t155)) else (some false))) else (some false))
theorem impl_headRight.mono : ∀ a0 a1 a2 k, LeO (impl_headRight.f k a0 a1 a2) (impl_headRight.f (k + 1) a0 a1 a2) := by
 intro a0 a1 a2 k
 unfold impl_headRight.f
 repeat' first
   | (with_reducible exact impl_isDomain.mono _ _)
   | (with_reducible exact LeO.refl _)
   | (with_reducible exact LeO.none _)
   | (with_reducible refine LeO.ite ?_ ?_)
   | (with_reducible refine LeO.bind ?_ (fun _ => ?_))
   | exact impl_isDomain.mono _ _
   | exact LeO.none _
   | refine LeO.ite ?_ ?_
   | refine LeO.bind ?_ (fun _ => ?_)
set_option maxHeartbeats 8000000 in
set_option maxRecDepth 100000 in
theorem impl_headRight.calls (k : Nat) (a0_0 : ByteArray) (a0_1 : ByteArray) (a0_2 : Int) (r : Bool) (w : World) (h : impl_headRight.f k a0_0 a0_1 a0_2 = some r) (hmx : MaxIs w) :
  Calls Tryd.prog 44 #[.agg #[.string a0_0, .string a0_1, .int .i64 a0_2]] w fun e w' => e = .returned (.bool r) ∧ Below w.heap.size w w' := by
 have hu28 := Tryd.underlying28
 have HB := Aside0.mk (Below.refl w.heap.size w)
 have H : ((impl_isDomain.f k a0_0).bind fun t153 => (if t153 = true then ((impl_isDomain.f k a0_1).bind fun t154 => (if t154 = true then ((impl_in.f a0_2 1 1000000000).bind fun t155 => (some t155)) else (some false))) else (some false))) = some r := h
 clear h
 replace H := Option.bind_eq_some_iff.mp H
 obtain ⟨t153, A20, H⟩ := H
 replace H : (if t153 = true then ((impl_isDomain.f k a0_1).bind fun t154 => (if t154 = true then ((impl_in.f a0_2 1 1000000000).bind fun t155 => (some t155)) else (some false))) else (some false)) = some r := H
 have A2 := Aside0.mk A20
 clear A20
 by_cases c3 : t153 = true
 ·
  subst c3
  have H1 : ((impl_isDomain.f k a0_1).bind fun t154 => (if t154 = true then ((impl_in.f a0_2 1 1000000000).bind fun t155 => (some t155)) else (some false))) = some r := by rw [if_pos rfl] at H; exact H
  clear H
  have H := H1
  clear H1
  replace H := Option.bind_eq_some_iff.mp H
  obtain ⟨t154, A40, H⟩ := H
  replace H : (if t154 = true then ((impl_in.f a0_2 1 1000000000).bind fun t155 => (some t155)) else (some false)) = some r := H
  have A4 := Aside0.mk A40
  clear A40
  by_cases c5 : t154 = true
  ·
   subst c5
   have H1 : ((impl_in.f a0_2 1 1000000000).bind fun t155 => (some t155)) = some r := by rw [if_pos rfl] at H; exact H
   clear H
   have H := H1
   clear H1
   replace H := Option.bind_eq_some_iff.mp H
   obtain ⟨t155, A60, H⟩ := H
   replace H : (some t155) = some r := H
   have A6 := Aside0.mk A60
   clear A60
   obtain rfl := Option.some.inj H
   go_enter Tryd.func44, Tryd.ntmps44
   go_wp2_with (first | ((with_reducible refine gate_dst (N := 1) rfl ?_); refine box_event ?hg (N := 1) ?hd (cs := #[.string a0_0, .string a0_1, .int .i64 a0_2]) (t := 28) ?hr ?_; (case hd => rfl); (case hg => rfl); (case hr => first | (go_simp; done) | (go_simp; rfl)); intro gb152 hg w7 hbox hb; have n0_ := Aside0.mk (below_step zb0_4 hb); have n1_ := Aside0.mk (hbox); have n2_ := Aside0.mk ((zb1_4 : w.heap.size ≤ gb152)); have n3_ := Aside0.mk ((zb1_4 : w.heap.size ≤ gb152)); clear HB; have HB := n0_; have BK152 := n1_; have GW152 := n2_; have GE152 := n3_; clear n0_ n1_ n2_ n3_; clear hb hbox hg; have hcz8_0 := bcq_4 BK152.out 0; have hcz8_1 := bcq_4 BK152.out 1; have hcz8_2 := bcq_4 BK152.out 2; have hfz8_0 := blk_frozen BK152.out 0; have hfz8_1 := blk_frozen BK152.out 1; have hfz8_2 := blk_frozen BK152.out 2) | ((with_reducible refine gate_callee (f := 49) rfl ?_); refine goesL_ (some 5) rfl rfl Tryd.func49 (by kernel_rfl) rfl #[.string a0_0] rfl zb2_4 ?_; (with_reducible refine (impl_isDomain.calls k a0_0 true _ A2.out zb14_4).mono ?_); rintro e w9 ⟨rfl, hb⟩; refine ⟨_, rfl, ?_⟩; have n0_ := Aside0.mk (blk_below (g := gb152) (o := .cells #[.string a0_0, .string a0_1, .int .i64 a0_2] 28 (0, 0)) zb15_4 hb); have n1_ := Aside0.mk (below_step zb16_4 hb); clear BK152; clear HB; have BK152 := n0_; have HB := n1_; clear n0_ n1_; (try clear hb); (try clear hb2); (try clear hk); (try clear hi); have hcz10_0 := bcq_4 BK152.out 0; have hcz10_1 := bcq_4 BK152.out 1; have hcz10_2 := bcq_4 BK152.out 2; have hfz10_0 := blk_frozen BK152.out 0; have hfz10_1 := blk_frozen BK152.out 1; have hfz10_2 := blk_frozen BK152.out 2) | (go_at_call 49; (with_reducible refine (impl_isDomain.calls k a0_1 true _ A4.out zb14_4).mono ?_); rintro e w11 ⟨rfl, hb⟩; have n0_ := Aside0.mk (blk_below (g := gb152) (o := .cells #[.string a0_0, .string a0_1, .int .i64 a0_2] 28 (0, 0)) zb15_4 hb); have n1_ := Aside0.mk (below_step zb16_4 hb); clear BK152; clear HB; have BK152 := n0_; have HB := n1_; clear n0_ n1_; (try clear hb); (try clear hb2); (try clear hk); (try clear hi); have hcz12_0 := bcq_4 BK152.out 0; have hcz12_1 := bcq_4 BK152.out 1; have hcz12_2 := bcq_4 BK152.out 2; have hfz12_0 := blk_frozen BK152.out 0; have hfz12_1 := blk_frozen BK152.out 1; have hfz12_2 := blk_frozen BK152.out 2) | (go_at_call 51; (with_reducible refine (impl_in.calls a0_2 1 1000000000 t155 _ A6.out).mono ?_); rintro e w' ⟨rfl, ⟨nd, rfl⟩⟩))
   go_ret
   exact ⟨by first | rfl | (simp [errW_none, errW_some] <;> rfl) | (simp [*, errW_none, errW_some] <;> rfl), by repeat (first | (with_reducible first | exact HB.out | apply below_alloc | apply pw_below_drewN | apply below_drew1 | refine below_set ?_ GE152.out) | exact HB.out)⟩
  ·
   replace c5 := Bool.eq_false_iff.mpr c5
   subst c5
   have H1 : (some false) = some r := by rw [if_neg (show ¬ (false = true) by decide)] at H; exact H
   clear H
   have H := H1
   clear H1
   obtain rfl := Option.some.inj H
   go_enter Tryd.func44, Tryd.ntmps44
   go_wp2_with (first | ((with_reducible refine gate_dst (N := 1) rfl ?_); refine box_event ?hg (N := 1) ?hd (cs := #[.string a0_0, .string a0_1, .int .i64 a0_2]) (t := 28) ?hr ?_; (case hd => rfl); (case hg => rfl); (case hr => first | (go_simp; done) | (go_simp; rfl)); intro gb152 hg w13 hbox hb; have n0_ := Aside0.mk (below_step zb0_4 hb); have n1_ := Aside0.mk (hbox); have n2_ := Aside0.mk ((zb1_4 : w.heap.size ≤ gb152)); have n3_ := Aside0.mk ((zb1_4 : w.heap.size ≤ gb152)); clear HB; have HB := n0_; have BK152 := n1_; have GW152 := n2_; have GE152 := n3_; clear n0_ n1_ n2_ n3_; clear hb hbox hg; have hcz14_0 := bcq_4 BK152.out 0; have hcz14_1 := bcq_4 BK152.out 1; have hcz14_2 := bcq_4 BK152.out 2; have hfz14_0 := blk_frozen BK152.out 0; have hfz14_1 := blk_frozen BK152.out 1; have hfz14_2 := blk_frozen BK152.out 2) | ((with_reducible refine gate_callee (f := 49) rfl ?_); refine goesL_ (some 5) rfl rfl Tryd.func49 (by kernel_rfl) rfl #[.string a0_0] rfl zb2_4 ?_; (with_reducible refine (impl_isDomain.calls k a0_0 true _ A2.out zb14_4).mono ?_); rintro e w15 ⟨rfl, hb⟩; refine ⟨_, rfl, ?_⟩; have n0_ := Aside0.mk (blk_below (g := gb152) (o := .cells #[.string a0_0, .string a0_1, .int .i64 a0_2] 28 (0, 0)) zb15_4 hb); have n1_ := Aside0.mk (below_step zb16_4 hb); clear BK152; clear HB; have BK152 := n0_; have HB := n1_; clear n0_ n1_; (try clear hb); (try clear hb2); (try clear hk); (try clear hi); have hcz16_0 := bcq_4 BK152.out 0; have hcz16_1 := bcq_4 BK152.out 1; have hcz16_2 := bcq_4 BK152.out 2; have hfz16_0 := blk_frozen BK152.out 0; have hfz16_1 := blk_frozen BK152.out 1; have hfz16_2 := blk_frozen BK152.out 2) | (go_at_call 49; (with_reducible refine (impl_isDomain.calls k a0_1 false _ A4.out zb14_4).mono ?_); rintro e w17 ⟨rfl, hb⟩; have n0_ := Aside0.mk (blk_below (g := gb152) (o := .cells #[.string a0_0, .string a0_1, .int .i64 a0_2] 28 (0, 0)) zb15_4 hb); have n1_ := Aside0.mk (below_step zb16_4 hb); clear BK152; clear HB; have BK152 := n0_; have HB := n1_; clear n0_ n1_; (try clear hb); (try clear hb2); (try clear hk); (try clear hi)))
   go_ret
   exact ⟨by first | rfl | (simp [errW_none, errW_some] <;> rfl) | (simp [*, errW_none, errW_some] <;> rfl), by repeat (first | (with_reducible first | exact HB.out | apply below_alloc | apply pw_below_drewN | apply below_drew1 | refine below_set ?_ GE152.out) | exact HB.out)⟩
 ·
  replace c3 := Bool.eq_false_iff.mpr c3
  subst c3
  have H1 : (some false) = some r := by rw [if_neg (show ¬ (false = true) by decide)] at H; exact H
  clear H
  have H := H1
  clear H1
  obtain rfl := Option.some.inj H
  go_enter Tryd.func44, Tryd.ntmps44
  go_wp2_with (first | ((with_reducible refine gate_dst (N := 1) rfl ?_); refine box_event ?hg (N := 1) ?hd (cs := #[.string a0_0, .string a0_1, .int .i64 a0_2]) (t := 28) ?hr ?_; (case hd => rfl); (case hg => rfl); (case hr => first | (go_simp; done) | (go_simp; rfl)); intro gb152 hg w18 hbox hb; have n0_ := Aside0.mk (below_step zb0_4 hb); have n1_ := Aside0.mk (hbox); have n2_ := Aside0.mk ((zb1_4 : w.heap.size ≤ gb152)); have n3_ := Aside0.mk ((zb1_4 : w.heap.size ≤ gb152)); clear HB; have HB := n0_; have BK152 := n1_; have GW152 := n2_; have GE152 := n3_; clear n0_ n1_ n2_ n3_; clear hb hbox hg; have hcz19_0 := bcq_4 BK152.out 0; have hcz19_1 := bcq_4 BK152.out 1; have hcz19_2 := bcq_4 BK152.out 2; have hfz19_0 := blk_frozen BK152.out 0; have hfz19_1 := blk_frozen BK152.out 1; have hfz19_2 := blk_frozen BK152.out 2) | ((with_reducible refine gate_callee (f := 49) rfl ?_); refine goesL_ (some 5) rfl rfl Tryd.func49 (by kernel_rfl) rfl #[.string a0_0] rfl zb2_4 ?_; (with_reducible refine (impl_isDomain.calls k a0_0 false _ A2.out zb14_4).mono ?_); rintro e w20 ⟨rfl, hb⟩; refine ⟨_, rfl, ?_⟩; have n0_ := Aside0.mk (blk_below (g := gb152) (o := .cells #[.string a0_0, .string a0_1, .int .i64 a0_2] 28 (0, 0)) zb15_4 hb); have n1_ := Aside0.mk (below_step zb16_4 hb); clear BK152; clear HB; have BK152 := n0_; have HB := n1_; clear n0_ n1_; (try clear hb); (try clear hb2); (try clear hk); (try clear hi)))
  go_ret
  exact ⟨by first | rfl | (simp [errW_none, errW_some] <;> rfl) | (simp [*, errW_none, errW_some] <;> rfl), by repeat (first | (with_reducible first | exact HB.out | apply below_alloc | apply pw_below_drewN | apply below_drew1 | refine below_set ?_ GE152.out) | exact HB.out)⟩

/-! ### strconv_FormatInt: function 85: by the library's contract at base 10 (it reads the table uint64pow10) -/
def strconv_FormatInt.f (a0 : Int) (a1 : Int) : Option (ByteArray) := if a1 = 10 then (if -9223372036854775808 ≤ a0 then (if a0 ≤ 9223372036854775807 then some ⟨(Lib.itoa a0).toArray⟩ else none) else none) else none
theorem strconv_FormatInt.calls (a0 : Int) (a1 : Int) (r : ByteArray) (w : World) (h : strconv_FormatInt.f a0 a1 = some r) (hmx : MaxIs w) :
  Calls Tryd.prog 85 #[.int .i64 a0, .int .i64 a1] w fun e w' => e = .returned (.string r) ∧ Below w.heap.size w w' := by
 unfold strconv_FormatInt.f at h
 by_cases h10 : a1 = 10
 ·
  by_cases h0 : -9223372036854775808 ≤ a0
  ·
   by_cases h1 : a0 ≤ 9223372036854775807
   ·
    rw [if_pos h10, if_pos h0, if_pos h1] at h
    have hr := Option.some.inj h
    subst h10
    have hcon := Any.strconv_FormatInt_10 Tryd.laysM173 a0 h0 h1 w hmx.tab
    change Calls Tryd.prog 85 _ _ (fun e w' => e = .returned (.string ⟨(Lib.itoa a0).toArray⟩) ∧ ∃ k os, w' = Go.Sort.grow (w.drewN k) os) at hcon
    refine hcon.mono ?_
    rintro e w' ⟨rfl, k, os, rfl⟩
    exact ⟨by rw [hr], rfl, rfl, rfl, by show w.heap.size ≤ (w.heap ++ os).size; rw [Array.size_append]; omega, fun j hj => by show (w.heap ++ os)[j]? = w.heap[j]?; rw [Array.getElem?_append_left hj]⟩
   ·
    rw [if_pos h10, if_pos h0, if_neg h1] at h
    exact absurd h (by simp)
  ·
   rw [if_pos h10, if_neg h0] at h
   exact absurd h (by simp)
 ·
  rw [if_neg h10] at h
  exact absurd h (by simp)

/-! ### impl_decimal: function 76 -/
def impl_decimal.f (a0 : Int) : Option (ByteArray) := (strconv_FormatInt.f a0 10).bind fun t156 => (some t156)
set_option maxHeartbeats 8000000 in
set_option maxRecDepth 100000 in
theorem impl_decimal.calls (a0 : Int) (r : ByteArray) (w : World) (h : impl_decimal.f a0 = some r) (hmx : MaxIs w) :
  Calls Tryd.prog 76 #[.int .i64 a0] w fun e w' => e = .returned (.string r) ∧ Below w.heap.size w w' := by
 have HB := Aside0.mk (Below.refl w.heap.size w)
 have H : ((strconv_FormatInt.f a0 10).bind fun t156 => (some t156)) = some r := h
 clear h
 replace H := Option.bind_eq_some_iff.mp H
 obtain ⟨t156, A20, H⟩ := H
 replace H : (some t156) = some r := H
 have A2 := Aside0.mk A20
 clear A20
 obtain rfl := Option.some.inj H
 go_enter Tryd.func76, Tryd.ntmps76
 go_wp2_with (first | ((with_reducible refine gate_callee (f := 85) rfl ?_); refine goesL_ (some 4) rfl rfl Tryd.func85 (by kernel_rfl) rfl #[.int .i64 a0, .int .i64 10] rfl zb2_4 ?_; (with_reducible refine (strconv_FormatInt.calls a0 10 t156 _ A2.out (by first | exact hmx | exact hmx.below HB.out | exact hmx.below (by repeat (first | (with_reducible first | exact HB.out | apply below_alloc | apply pw_below_drewN | apply below_drew1 | exact Below.refl _ _) | exact HB.out | exact Below.refl _ _)))).mono ?_); rintro e w3 ⟨rfl, hb⟩; refine ⟨_, rfl, ?_⟩; have n0_ := Aside0.mk (below_step zb0_4 hb); clear HB; have HB := n0_; clear n0_; (try clear hb); (try clear hb2); (try clear hk); (try clear hi)))
 go_ret
 exact ⟨by first | rfl | (simp [errW_none, errW_some] <;> rfl) | (simp [*, errW_none, errW_some] <;> rfl), by repeat (first | (with_reducible first | exact HB.out | apply below_alloc | apply pw_below_drewN | apply below_drew1) | exact HB.out)⟩

end Go.Proofs.YtjchggdekbnmnaaDoor.QFnExactHeadText
