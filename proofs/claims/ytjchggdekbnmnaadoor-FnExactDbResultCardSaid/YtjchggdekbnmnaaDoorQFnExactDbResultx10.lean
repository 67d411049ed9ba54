-- laid by this session's own runner (wip/print2.py): not a printed file
import Derived.Test.YtjchggdekbnmnaaDoorQFnExactDbResultx0
import Derived.Test.YtjchggdekbnmnaaDoorQFnExactDbResultx6
import Derived.Test.YtjchggdekbnmnaaDoorQFnExactDbResultx9
namespace Go.Proofs.YtjchggdekbnmnaaDoor.QFnExactDbResult
open Go.RowKit Go.Proofs.YtjchggdekbnmnaaDoorW.PrintWords Go.Proofs.YtjchggdekbnmnaaDoorW.PrintLast Go.Proofs.YtjchggdekbnmnaaDoorW.PrintMore
attribute [local go_sem] max2_int min2_int max_two min_two max_three min_three max_four min_four   -- for this text's walks alone
set_option linter.unusedVariables false
set_option linter.unusedSimpArgs false

theorem bcq_10 {w : World} {g t : Nat} {cs : Array Value} {v : Value} (h : w.heap[g]? = some (.cells cs t (0, 0))) (j : Nat) (e : cs[j]? = some v := by rfl) : w.cell? ⟨g, j, none⟩ = some v := (blk_cell h j).trans e
theorem zb0_10 {P : Prop} (h : P := by first | (with_reducible assumption) | assumption) : P := h
theorem zb1_10 {P : Prop} (h : P := by repeat (first | (with_reducible first | exact HB.out | apply below_alloc | apply pw_below_drewN | apply below_drew1) | exact HB.out)) : P := h
theorem zb2_10 {P : Prop} (h : P := by rw [hg]; exact (below_size (by repeat (first | (with_reducible first | exact HB.out | apply below_alloc | apply pw_below_drewN | apply below_drew1) | exact HB.out)))) : P := h
theorem zb3_10 {P : Prop} (h : P := by (with_reducible repeat (first | refine blk_drewN ?_ _ | refine blk_drew ?_ | refine blk_alloc ?_ _)); exact BK275.out) : P := h
theorem zb4_10 {P : Prop} (h : P := by repeat (first | (with_reducible first | exact HB.out | apply below_alloc | apply pw_below_drewN | apply below_drew1 | refine below_set ?_ GE275.out) | exact HB.out)) : P := h
theorem zb5_10 {P : Prop} (h : P := by (try simp only [List.map_toArray, List.map_cons, List.map_nil]); first | done | rfl | (simp only [List.length_drop, List.length_take]; rfl)) : P := h
theorem zb6_10 {P : Prop} (h : P := by (with_reducible repeat (first | refine blk_drewN ?_ _ | refine blk_drew ?_ | refine blk_alloc ?_ _)); exact BK280.out) : P := h
theorem zb7_10 {P : Prop} (h : P := by repeat (first | (with_reducible first | exact HB.out | apply below_alloc | apply pw_below_drewN | apply below_drew1 | refine below_set ?_ GE280.out) | exact HB.out)) : P := h
theorem zb8_10 {P : Prop} (h : P := by rw [hg]; exact (below_size (by repeat (first | (with_reducible first | exact HB.out | apply below_alloc | apply pw_below_drewN | apply below_drew1 | refine below_set ?_ GE280.out) | exact HB.out)))) : P := h
theorem zb9_10 {P : Prop} (h : P := by rw [hg]; exact Nat.ne_of_lt (blk_lt (g := gb280) (o := .cells #[.string a0_0, .int .i64 a0_1, .slice A0_2 l0_2.length c0_2] 40 (0, 0)) (by (with_reducible repeat (first | refine blk_drewN ?_ _ | refine blk_drew ?_ | refine blk_alloc ?_ _)); exact BK280.out))) : P := h
theorem zb10_10 {P : Prop} (h : P := by rw [hg]; exact Nat.ne_of_gt (blk_lt (g := gb280) (o := .cells #[.string a0_0, .int .i64 a0_1, .slice A0_2 l0_2.length c0_2] 40 (0, 0)) (by (with_reducible repeat (first | refine blk_drewN ?_ _ | refine blk_drew ?_ | refine blk_alloc ?_ _)); exact BK280.out))) : P := h
theorem zb11_10 {P : Prop} (h : P := by (with_reducible repeat (first | refine blk_drewN ?_ _ | refine blk_drew ?_ | refine blk_alloc ?_ _)); exact BK281.out) : P := h
theorem zb12_10 {P : Prop} (h : P := by repeat (first | (with_reducible first | exact HB.out | apply below_alloc | apply pw_below_drewN | apply below_drew1 | refine below_set ?_ GE280.out | refine below_set ?_ GE281.out) | exact HB.out)) : P := h
theorem zb13_10 {P : Prop} (h : P := by (with_reducible repeat (first | apply Kd.R_alloc | apply Kd.R_drewN | apply Kd.R_drew)); exact HO285.out) : P := h
theorem zb14_10 {P : Prop} (h : P := by (with_reducible repeat (first | refine blk_drewN ?_ _ | refine blk_drew ?_ | refine blk_alloc ?_ _)); refine blk_put (cs := #[.string (⟨#[]⟩ : ByteArray), .int .i64 0, .slice none 0 0, .int .i64 0, .int .i64 0]) ?_ 4 _ rfl; (with_reducible repeat (first | refine blk_drewN ?_ _ | refine blk_drew ?_ | refine blk_alloc ?_ _)); refine blk_put (cs := #[.string (⟨#[]⟩ : ByteArray), .int .i64 0, .slice none 0 0, .int .i64 0, .int .i64 0]) ?_ 3 _ rfl; (with_reducible repeat (first | refine blk_drewN ?_ _ | refine blk_drew ?_ | refine blk_alloc ?_ _)); refine blk_put (cs := #[.string (⟨#[]⟩ : ByteArray), .int .i64 0, .slice none 0 0, .int .i64 0, .int .i64 0]) ?_ 2 _ rfl; (with_reducible repeat (first | refine blk_drewN ?_ _ | refine blk_drew ?_ | refine blk_alloc ?_ _)); refine blk_put (cs := #[.string (⟨#[]⟩ : ByteArray), .int .i64 0, .slice none 0 0, .int .i64 0, .int .i64 0]) ?_ 1 _ rfl; (with_reducible repeat (first | refine blk_drewN ?_ _ | refine blk_drew ?_ | refine blk_alloc ?_ _)); refine blk_put (cs := #[.string (⟨#[]⟩ : ByteArray), .int .i64 0, .slice none 0 0, .int .i64 0, .int .i64 0]) ?_ 0 _ rfl; (with_reducible repeat (first | refine blk_drewN ?_ _ | refine blk_drew ?_ | refine blk_alloc ?_ _)); exact BK281.out) : P := h
theorem zb15_10 {P : Prop} (h : P := by first | exact hmx | exact hmx.below HB.out | exact hmx.below (by repeat (first | (with_reducible first | exact HB.out | apply below_alloc | apply pw_below_drewN | apply below_drew1 | refine below_set ?_ GE280.out | refine below_set ?_ GE281.out | refine below_set ?_ GE295.out | exact Below.refl _ _) | exact HB.out | exact Below.refl _ _))) : P := h
theorem zb16_10 {P : Prop} (h : P := by (with_reducible repeat (first | apply Kd.R_alloc | apply Kd.R_drewN | apply Kd.R_drew)); exact HO294.out) : P := h
theorem zb17_10 {P : Prop} (h : P := by (with_reducible repeat (first | refine blk_drewN ?_ _ | refine blk_drew ?_ | refine blk_alloc ?_ _)); exact BK295.out) : P := h
theorem zb18_10 {P : Prop} (h : P := by (with_reducible repeat (first | refine blk_drewN ?_ _ | refine blk_drew ?_ | refine blk_alloc ?_ _)); refine blk_put (cs := #[.string t290, .int .i64 t291, .slice (some ⟨go37, 0, none⟩) t292.length co55, .int .i64 0, .int .i64 0]) ?_ 4 _ rfl; (with_reducible repeat (first | refine blk_drewN ?_ _ | refine blk_drew ?_ | refine blk_alloc ?_ _)); refine blk_put (cs := #[.string t290, .int .i64 t291, .slice (some ⟨go37, 0, none⟩) t292.length co55, .int .i64 0, .int .i64 0]) ?_ 3 _ rfl; (with_reducible repeat (first | refine blk_drewN ?_ _ | refine blk_drew ?_ | refine blk_alloc ?_ _)); refine blk_put (cs := #[.string t290, .int .i64 t291, .slice none 0 0, .int .i64 0, .int .i64 0]) ?_ 2 _ rfl; (with_reducible repeat (first | refine blk_drewN ?_ _ | refine blk_drew ?_ | refine blk_alloc ?_ _)); refine blk_put (cs := #[.string t290, .int .i64 0, .slice none 0 0, .int .i64 0, .int .i64 0]) ?_ 1 _ rfl; (with_reducible repeat (first | refine blk_drewN ?_ _ | refine blk_drew ?_ | refine blk_alloc ?_ _)); refine blk_put (cs := #[.string (⟨#[]⟩ : ByteArray), .int .i64 0, .slice none 0 0, .int .i64 0, .int .i64 0]) ?_ 0 _ rfl; (with_reducible repeat (first | refine blk_drewN ?_ _ | refine blk_drew ?_ | refine blk_alloc ?_ _)); exact BK281.out) : P := h
/-! ### impl_peerAt: function 54: by hand (a closure over a boxed number, handed to the library's search) -/
def impl_peerAt.idx (id : Int) : List (S71) → Int → Int
 | [], _ => -1
 | x :: l, i => if x.f1 = id then i else impl_peerAt.idx id l (i + 1)
def impl_peerAt.f (_a0_0 : ByteArray) (_a0_1 : Int) (l0_2 : List (S71)) (a1 : Int) : Option (Int) := some (impl_peerAt.idx a1 l0_2 0)
theorem impl_peerAt.idx_step (id : Int) (l : List S71) (i : Nat) (h : i < l.length) : impl_peerAt.idx id (l.drop i) i = if (rd_T71 l i).f1 = id then (i : Int) else impl_peerAt.idx id (l.drop (i + 1)) ((i : Int) + 1) := by
 rw [List.drop_eq_getElem_cons h, impl_peerAt.idx]
 have e : rd_T71 l i = l[i] := by
  unfold rd_T71
  rw [Int.toNat_natCast, List.getD_eq_getElem?_getD, List.getElem?_eq_getElem h]
  rfl
 rw [e]
theorem impl_peerAt.idx_end (id : Int) (l : List S71) (i : Nat) (h : ¬ i < l.length) : impl_peerAt.idx id (l.drop i) i = -1 := by
 rw [List.drop_eq_nil_of_le (by omega)]; rfl
set_option maxRecDepth 100000 in
theorem impl_peerAt.clo (x : S71) (g : Nat) (id : Int) (w : World) (hg : w.heap[g]? = some (.cells #[.int .i64 id] 2 (0, 0))) :
  Calls Tryd.prog 75 #[.agg #[.string x.f0, .int .i64 x.f1, .int .i64 x.f2, .string x.f3], .pointer (some ⟨g, 0, none⟩)] w fun e w' => e = .returned (.bool (x.f1 == id)) ∧ Below w.heap.size w w' := by
 have hu71 := Tryd.underlying71
 have BG := Aside0.mk hg
 clear hg
 go_enter Tryd.func75, Tryd.ntmps75
 go_wp2_with (first | ((with_reducible refine gate_dst (N := 2) rfl ?_); refine box_event ?hg (N := 2) ?hd (cs := #[.string x.f0, .int .i64 x.f1, .int .i64 x.f2, .string x.f3]) (t := 71) ?hr ?_; (case hd => rfl); (case hg => rfl); (case hr => first | (go_simp; done) | (go_simp; rfl)); intro gb hg2 w3 hbox hb; have BK := Aside0.mk hbox; have HB := Aside0.mk hb; have BG2 := Aside0.mk (blk_below (g := g) (o := .cells #[.int .i64 id] 2 (0, 0)) BG.out hb); clear hbox hb hg2; have hc1 : w3.cell? ⟨gb, 1, none⟩ = some (.int .i64 x.f1) := (blk_cell BK.out 1).trans rfl; have hc0 : w3.cell? ⟨g, 0, none⟩ = some (.int .i64 id) := (blk_cell BG2.out 0).trans rfl; have hf1 := blk_frozen BK.out 1; have hf0 := blk_frozen BG2.out 0))
 go_ret
 exact ⟨rfl, HB.out⟩
set_option maxRecDepth 100000 in
theorem impl_peerAt.scan (g : Nat) (id : Int) (A : Option Addr) (c : Nat) (l : List S71) (w : World) (hg : w.heap[g]? = some (.cells #[.int .i64 id] 2 (0, 0))) (hr : Kd.C k71 w A l.length l) (hc : l.length ≤ c) :
  Calls Tryd.prog 74 #[.slice A l.length c, .func (.func 75) #[] #[.pointer (some ⟨g, 0, none⟩)]] w fun e w' => e = .returned (.int .i64 (impl_peerAt.idx id l 0)) ∧ Below w.heap.size w w' := by
 have hu71 := Tryd.underlying71
 have HR := Aside0.mk hr
 have HC := Aside0.mk hc
 have BG := Aside0.mk hg
 have HBIG := Aside0.mk hr.2.1
 clear hr hc hg
 go_enter Tryd.func74, Tryd.ntmps74
 go_wp2
 go_loopg [5, 8] (l.length + 1) (fun gg _ s8 wr => ∃ i : Nat, i ≤ l.length ∧ l.length - i < gg ∧ s8 = .int .i64 i ∧ Aside0 (Below w.heap.size w wr) ∧ Aside0 (impl_peerAt.idx id (l.drop i) i = impl_peerAt.idx id l 0))
 case atStart => exact ⟨0, Nat.zero_le _, by omega, rfl, ⟨Below.refl _ _⟩, ⟨rfl⟩⟩
 case round =>
  obtain ⟨i, hi, hgg, rfl, HB, HI⟩ := hrel
  have hbig := HBIG.out
  by_cases c4 : i < l.length
  ·
   have hltz : (i : Int) < (l.length : Int) := by omega
   have h0z : 0 ≤ (i : Int) := by omega
   obtain ⟨ad, e, hx0, hx1, hx2, hx3⟩ := at_T71 HR.out i h0z hltz
   cases e
   have hst := impl_peerAt.idx_step id l i c4
   rw [Int.toNat_natCast] at hx0 hx1 hx2 hx3
   generalize rd_T71 l i = x at hx0 hx1 hx2 hx3 hst
   replace hx0 := (HB.out.cell (World.block_lt_of_cell? w _ hx0)).trans hx0
   replace hx1 := (HB.out.cell (World.block_lt_of_cell? w _ hx1)).trans hx1
   replace hx2 := (HB.out.cell (World.block_lt_of_cell? w _ hx2)).trans hx2
   replace hx3 := (HB.out.cell (World.block_lt_of_cell? w _ hx3)).trans hx3
   have BGr := Aside0.mk (blk_below (g := g) (o := .cells #[.int .i64 id] 2 (0, 0)) BG.out HB.out)
   have HST := Aside0.mk hst
   clear hst
   have hb0 : decide ((i : Int) < (l.length : Int)) = true := decide_eq_true hltz
   cases hq : (x.f1 == id)
   ·
    go_wp2_with (go_at_call 75; refine (impl_peerAt.clo x g id _ BGr.out).mono ?_; rintro e w' ⟨rfl, hb⟩; rw [hq]; have HB2 := Aside0.mk (below_step HB.out hb); clear hb)
    go_roundg (l.length - i)
    case measure => omega
    case rel =>
     refine ⟨i + 1, by omega, by omega, by go_num, HB2, ⟨?_⟩⟩
     have h1 := HST.out
     rw [if_neg (by intro he; rw [he] at hq; simp at hq)] at h1
     rw [← HI.out, h1]
     rfl
   ·
    go_wp2_with (go_at_call 75; refine (impl_peerAt.clo x g id _ BGr.out).mono ?_; rintro e w' ⟨rfl, hb⟩; rw [hq]; have HB2 := Aside0.mk (below_step HB.out hb); clear hb)
    go_ret
    refine ⟨?_, HB2.out⟩
    have h1 := HST.out
    rw [if_pos (by simpa using hq)] at h1
    rw [← HI.out, h1]
    rfl
  ·
   have hltz : ¬ (i : Int) < (l.length : Int) := by omega
   go_wp2
   go_ret
   refine ⟨?_, HB.out⟩
   rw [← HI.out, impl_peerAt.idx_end id l i c4]
   rfl
set_option maxRecDepth 100000 in
theorem impl_peerAt.calls (a0_0 : ByteArray) (a0_1 : Int) (A0_2 : Option Addr) (c0_2 : Nat) (l0_2 : List (S71)) (a1 : Int) (r : Int) (w : World) (hr0_2 : Kd.C k71 w A0_2 l0_2.length l0_2) (hc0_2 : l0_2.length ≤ c0_2) (h : impl_peerAt.f a0_0 a0_1 l0_2 a1 = some r) :
  Calls Tryd.prog 54 #[.agg #[.string a0_0, .int .i64 a0_1, .slice A0_2 l0_2.length c0_2], .int .i64 a1] w fun e w' => e = .returned (.int .i64 r) ∧ Below w.heap.size w w' := by
 obtain rfl := Option.some.inj h
 clear h
 have hu40 := Tryd.underlying40
 have HR := Aside0.mk hr0_2
 have HC := Aside0.mk hc0_2
 clear hr0_2 hc0_2
 have hmf : ∀ fn first cap w, (Instr.makeFunc fn first cap).run Tryd.prog w = .ok (.func fn first cap) w := fun _ _ _ _ => rfl
 go_enter Tryd.func54, Tryd.ntmps54
 go_wp2_with (first | ((with_reducible refine gate_dst (N := 2) rfl ?_); refine box_event ?hg (N := 2) ?hd (cs := #[.string a0_0, .int .i64 a0_1, .slice A0_2 l0_2.length c0_2]) (t := 40) ?hr ?_; (case hd => rfl); (case hg => rfl); (case hr => first | (go_simp; done) | (go_simp; rfl)); intro g1 hg1 w3 hbox hb; have B1 := Aside0.mk hbox; have HB1 := Aside0.mk hb; clear hbox hb hg1) | ((with_reducible refine gate_dst (N := 3) rfl ?_); refine box_event ?hg (N := 3) ?hd (cs := #[.int .i64 a1]) (t := 2) ?hr ?_; (case hd => rfl); (case hg => rfl); (case hr => first | (go_simp; done) | (go_simp; rfl)); intro g2 hg2 w4 hbox hb; have B2 := Aside0.mk hbox; have B1b := Aside0.mk (blk_below (g := g1) (o := .cells #[.string a0_0, .int .i64 a0_1, .slice A0_2 l0_2.length c0_2] 40 (0, 0)) B1.out hb); have HB2 := Aside0.mk (below_step HB1.out hb); clear hbox hb hg2; have hc2 : w4.cell? ⟨g1, 2, none⟩ = some (.slice A0_2 l0_2.length c0_2) := (blk_cell B1b.out 2).trans rfl; have hf2 := blk_frozen B1b.out 2) | (go_at_call 74; refine (impl_peerAt.scan g2 a1 A0_2 c0_2 l0_2 _ B2.out (Kd.C_below HR.out HB2.out) HC.out).mono ?_; rintro e w' ⟨rfl, hb⟩; have HB3 := Aside0.mk (below_step HB2.out hb); clear hb))
 go_ret
 exact ⟨rfl, HB3.out⟩

/-! ### impl_long: function 59 -/
def impl_long.l0 : Nat → List ByteArray → Int → Int → Option (Bool)
 | 0, _, _, _ => none
 | k + 1, x5, x6, x7 => if x7 < x6 then (if 0 ≤ x7 then (if x7 < (x5.length : Int) then (if ((rdOf ByteArray.empty x5 x7).size : Int) > 20000 then (some true) else (impl_long.l0 k x5 x6 (wrap64 (x7 + 1)))) else (none)) else (none)) else (some false)
def impl_long.f (k : Nat) (l0 : List ByteArray) : Option (Bool) := impl_long.l0 k l0 (l0.length : Int) 0
theorem impl_long.mono_l : ∀ k, (∀ y0 y1 y2, LeO (impl_long.l0 k y0 y1 y2) (impl_long.l0 (k + 1) y0 y1 y2))
 | 0 => fun _ _ _ r h => by simp [impl_long.l0] at h
 | k + 1 => by
  have ih0 := impl_long.mono_l k
  ·
   intro y0 y1 y2
   unfold impl_long.l0
   repeat' first
   | (with_reducible exact ih0 _ _ _)
   | (with_reducible exact LeO.refl _)
   | (with_reducible exact LeO.none _)
   | (with_reducible refine LeO.ite ?_ ?_)
   | (with_reducible refine LeO.bind ?_ (fun _ => ?_))
   | exact ih0 _ _ _
   | exact LeO.none _
   | refine LeO.ite ?_ ?_
   | refine LeO.bind ?_ (fun _ => ?_)
theorem impl_long.mono : ∀ a0 k, LeO (impl_long.f k a0) (impl_long.f (k + 1) a0) := by
 intro a0 k
 have ih0 := impl_long.mono_l k
 unfold impl_long.f
 repeat' first
   | (with_reducible exact ih0 _ _ _)
   | (with_reducible exact LeO.refl _)
   | (with_reducible exact LeO.none _)
   | (with_reducible refine LeO.ite ?_ ?_)
   | (with_reducible refine LeO.bind ?_ (fun _ => ?_))
   | exact ih0 _ _ _
   | exact LeO.none _
   | refine LeO.ite ?_ ?_
   | refine LeO.bind ?_ (fun _ => ?_)
set_option maxHeartbeats 8000000 in
set_option maxRecDepth 100000 in
theorem impl_long.calls (k : Nat) (A0 : Option Addr) (c0 : Nat) (l0 : List ByteArray) (r : Bool) (w : World) (hr0 : Kd.C Kd.string w A0 l0.length l0) (hc0 : l0.length ≤ c0) (h : impl_long.f k l0 = some r) :
  Calls Tryd.prog 59 #[.slice A0 l0.length c0] w fun e w' => e = .returned (.bool r) ∧ Drawn0 w w' := by
 have HR0 := Aside0.mk hr0
 have HC0 := Aside0.mk hc0
 clear hr0 hc0
 have H : (impl_long.l0 k l0 (l0.length : Int) 0) = some r := h
 clear h
 have H' := Aside0.mk H
 clear H
 go_enter Tryd.func59, Tryd.ntmps59
 go_wp2
 go_loopg [7] k (fun kq v7 w' => ∃ (x7_1 : Int), v7 = .int .i64 x7_1 ∧ Aside0 (impl_long.l0 kq l0 (l0.length : Int) x7_1 = some r) ∧ Aside0 (kq ≤ k) ∧ Drawn0 w w')
 case atStart => exact ⟨(0), (by first | rfl | (simp; done) | (simp [*]; done)), H', ⟨Nat.le_refl _⟩, by repeat (first | exact Drawn0.refl _ | apply Drawn0.step)⟩
 case round =>
  clear H'
  obtain ⟨x7_1, rfl, HA, HK1, ⟨m1, rfl⟩⟩ := hrel
  cases gk with
  | zero => exact absurd HA.out (by simp [impl_long.l0])
  | succ k1 =>
   have H := HA.out
   clear HA
   simp only [impl_long.l0] at H
   by_cases c2 : x7_1 < (l0.length : Int)
   ·
    rw [if_pos c2] at H
    have c2b0 : decide (x7_1 < (l0.length : Int)) = true := decide_eq_true c2
    clear c2
    by_cases c3 : 0 ≤ x7_1
    ·
     rw [if_pos c3] at H
     have c3b0 : decide (0 ≤ x7_1) = true := decide_eq_true c3
     clear c3
     by_cases c4 : x7_1 < (l0.length : Int)
     ·
      rw [if_pos c4] at H
      have c4b0 : decide (x7_1 < (l0.length : Int)) = true := decide_eq_true c4
      clear c4
      by_cases c5 : ((rdOf ByteArray.empty l0 x7_1).size : Int) > 20000
      ·
       rw [if_pos c5] at H
       have c5b0 : decide (20000 < ((rdOf ByteArray.empty l0 x7_1).size : Int)) = true := decide_eq_true c5
       have c5b1 : decide (20000 < (rdOf ByteArray.empty l0 x7_1).size) = true := decide_eq_true (by omega)
       clear c5
       obtain rfl := Option.some.inj H
       have p274 : 0 ≤ (x7_1 : Int) := of_decide_eq_true zb0_10
       have q274 : x7_1 < (l0.length : Int) := of_decide_eq_true zb0_10
       obtain ⟨ad274, e274, hx274_0⟩ := Kd.at_string HR0.out x7_1 p274 q274
       cases e274
       replace p274 := eq_true p274
       replace q274 := eq_true q274
       go_wp2
       go_ret
       exact ⟨by first | rfl | (simp; done) | (simp [*]; done), by repeat (first | exact Drawn0.refl _ | apply Drawn0.step)⟩
      ·
       rw [if_neg c5] at H
       have c5b0 : decide (20000 < ((rdOf ByteArray.empty l0 x7_1).size : Int)) = false := decide_eq_false c5
       have c5b1 : decide (20000 < (rdOf ByteArray.empty l0 x7_1).size) = false := decide_eq_false (by omega)
       clear c5
       have H' := Aside0.mk H
       clear H
       have p274 : 0 ≤ (x7_1 : Int) := of_decide_eq_true zb0_10
       have q274 : x7_1 < (l0.length : Int) := of_decide_eq_true zb0_10
       obtain ⟨ad274, e274, hx274_0⟩ := Kd.at_string HR0.out x7_1 p274 q274
       cases e274
       replace p274 := eq_true p274
       replace q274 := eq_true q274
       go_wp2
       go_roundg k1
       case measure => have := HK1.out; omega
       case rel => exact ⟨(wrap64 (x7_1 + 1)), (by first | rfl | (simp; done) | (simp [*]; done)), H', ⟨by have := HK1.out; omega⟩, by repeat (first | exact Drawn0.refl _ | apply Drawn0.step)⟩
     ·
      rw [if_neg c4] at H
      exact absurd H (by simp)
    ·
     rw [if_neg c3] at H
     exact absurd H (by simp)
   ·
    rw [if_neg c2] at H
    have c2b0 : decide (x7_1 < (l0.length : Int)) = false := decide_eq_false c2
    clear c2
    obtain rfl := Option.some.inj H
    go_wp2
    go_ret
    exact ⟨by first | rfl | (simp; done) | (simp [*]; done), by repeat (first | exact Drawn0.refl _ | apply Drawn0.step)⟩

/-! ### impl_Peer: function 77: by hand ('== nil' of a slice of structs) -/
def impl_Peer.f (l0 : List (S71)) : Option (List (S71)) := if l0.length < 2932031007402 then some l0 else none
set_option maxRecDepth 100000 in
theorem impl_Peer.calls (A0 : Option Addr) (c0 : Nat) (l0 : List (S71)) (r : List (S71)) (w : World) (hr0 : Kd.C k71 w A0 l0.length l0) (hc0 : l0.length ≤ c0) (h : impl_Peer.f l0 = some r) :
  Calls Tryd.prog 77 #[.slice A0 l0.length c0] w fun e w' => ∃ v0_ : Value, e = .returned (v0_) ∧ Kd.R k71 71 w' w.heap.size (fun _ => True) v0_ r ∧ Below w.heap.size w w' := by
 unfold impl_Peer.f at h
 by_cases hlen : l0.length < 2932031007402
 ·
  rw [if_pos hlen] at h
  obtain rfl := Option.some.inj h
  have HR := Aside0.mk hr0
  have HC := Aside0.mk hc0
  have LM := Aside0.mk hlen
  clear hr0 hc0 hlen h
  have q38 : ∀ (w : World) (a : Option Addr) (n c n' c' : Nat), (binOp .eql 38 (.slice a n c) (.slice none n' c')).run Tryd.prog w = .ok (.bool a.isNone) w := by
   have e38 : ∀ (d : Nat) (w : World) (a : Option Addr) (n c n' c' : Nat), (Op.equalIn (d + 1) 38 (.slice a n c) (.slice none n' c')).run Tryd.prog w = .ok a.isNone w := fun d w a n c n' c' => by cases a <;> simp [Op.equalIn, run_underlying Tryd.underlying38]
   intro w a n c n' c'
   simp only [binOp]
   simp [Op.equal, Op.maxDepth, e38 9999]
  obtain ⟨y1, hy1⟩ : ∃ y_ : List S71, y_ = [] := ⟨_, rfl⟩
  have NY := Aside0.mk hy1
  clear hy1
  go_enter Tryd.func77, Tryd.ntmps77
  cases A0 with
  | none =>
   go_wp2
   go_ret
   have h0 : l0 = [] := by
    have hx := HR.out.2.2
    cases l0 with
    | nil => rfl
    | cons x l =>
     obtain ⟨a, ha, _⟩ := hx (by simp)
     cases ha
   subst h0
   exact ⟨_, rfl, Kd.R_nil _ _ _ _ _, Below.refl _ _⟩
  | some ad =>
   go_wp2_with (first | ((with_reducible refine gate_dst (N := 5) rfl ?_); refine Kd.R_lit k71 _ 71 ?hg (N := 5) ?hd (xs := ([] : List (S71))) (inner := []) (ok := fun _ => True) (okp := fun _ => True) ?hr ?hp (fun _ hk => hk) trivial (Below.refl _ _) (Nat.le_refl _) (by simp) ?_; (case hd => rfl); (case hg => rfl); (case hr => first | (go_simp; done) | (go_simp; rfl)); (case hp => exact (Reps.none _ _)); intro v1 w5 ho6 hb hg_ hnew_; clear hg_ hnew_; rw [← NY.out] at ho6; have HO := Aside0.mk ho6; have HB := Aside0.mk hb; clear hb ho6) | ((with_reducible refine gate_builtin (b := .append) (xs := #[.tmp 5, .tmp 6]) rfl ?_); at_builtin; refine Kd.R_append_rows k71 (w0 := w) w.heap.size rfl (.tmp 5) (.tmp 6) 38 71 (.agg #[(.string ⟨#[]⟩), (.int .i64 0), (.int .i64 0), (.string ⟨#[]⟩)]) 48 rfl Tryd.underlying38 info71 rfl (by decide) (by omega) v1 y1 l0 _ _ _ (fun _ => True) (fun _ => False) rfl rfl ?aO ?aR (fun _ _ h => h) (fun _ h => h.elim) ?aF ?aB ?aS ?aL ?_; (case aR => exact (Kd.C_below HR.out HB.out)); (case aB => exact HB.out); (case aF => exact (fun _ _ => trivial)); (case aO => exact HO.out); (case aS => exact (below_size HB.out)); (case aL => have := LM.out; rw [NY.out]; simp only [List.length_nil]; omega); intro v2 w9 ho hb hg hat; have HO2 := Aside0.mk ho; have HB2 := Aside0.mk hb; clear ho hb hg hat))
   go_ret
   refine ⟨_, rfl, ?_, HB2.out⟩
   have h2 := HO2.out
   rw [NY.out, List.nil_append] at h2
   exact Kd.R_mono h2 (fun _ _ => trivial)
 ·
  rw [if_neg hlen] at h
  exact absurd h (by simp)

/-! ### impl_cloneDialback: function 60 -/
def impl_cloneDialback.f (a0_0 : ByteArray) (a0_1 : Int) (l0_2 : List (S71)) : Option (ByteArray × Int × (List (S71))) := (impl_Peer.f l0_2).bind fun t277 => (some (a0_0, a0_1, t277))
set_option maxHeartbeats 8000000 in
set_option maxRecDepth 100000 in
theorem impl_cloneDialback.calls (a0_0 : ByteArray) (a0_1 : Int) (A0_2 : Option Addr) (c0_2 : Nat) (l0_2 : List (S71)) (r1 : ByteArray) (r2 : Int) (r3 : List (S71)) (w : World) (hr0_2 : Kd.C k71 w A0_2 l0_2.length l0_2) (hc0_2 : l0_2.length ≤ c0_2) (h : impl_cloneDialback.f a0_0 a0_1 l0_2 = some (r1, r2, r3)) :
  Calls Tryd.prog 60 #[.agg #[.string a0_0, .int .i64 a0_1, .slice A0_2 l0_2.length c0_2]] w fun e w' => ∃ v2_ : Value, e = .returned (.agg #[.string r1, .int .i64 r2, v2_]) ∧ Kd.R k71 71 w' w.heap.size (fun _ => True) v2_ r3 ∧ Below w.heap.size w w' := by
 have hu40 := Tryd.underlying40
 have HR0_2 := Aside0.mk hr0_2
 have HC0_2 := Aside0.mk hc0_2
 clear hr0_2 hc0_2
 have HB := Aside0.mk (Below.refl w.heap.size w)
 have H : ((impl_Peer.f l0_2).bind fun t277 => (some (a0_0, a0_1, t277))) = some (r1, r2, r3) := h
 clear h
 replace H := Option.bind_eq_some_iff.mp H
 obtain ⟨t277, A20, H⟩ := H
 replace H : (some (a0_0, a0_1, t277)) = some (r1, r2, r3) := H
 have A2 := Aside0.mk A20
 clear A20
 simp only [Option.some.injEq, Prod.mk.injEq] at H
 obtain ⟨rfl, rfl, rfl⟩ := H
 go_enter Tryd.func60, Tryd.ntmps60
 go_wp2_with (first | ((with_reducible refine gate_dst (N := 1) rfl ?_); refine box_event ?hg (N := 1) ?hd (cs := #[.string a0_0, .int .i64 a0_1, .slice A0_2 l0_2.length c0_2]) (t := 40) ?hr ?_; (case hd => rfl); (case hg => rfl); (case hr => first | (go_simp; done) | (go_simp; rfl)); intro gb275 hg w3 hbox hb; have n0_ := Aside0.mk (below_step zb1_10 hb); have n1_ := Aside0.mk (hbox); have n2_ := Aside0.mk ((zb2_10 : w.heap.size ≤ gb275)); have n3_ := Aside0.mk ((zb2_10 : w.heap.size ≤ gb275)); clear HB; have HB := n0_; have BK275 := n1_; have GW275 := n2_; have GE275 := n3_; clear n0_ n1_ n2_ n3_; clear hb hbox hg) | ((with_reducible refine gate_dst (N := 2) rfl ?_); refine box_event ?hg (N := 2) ?hd (cs := #[.string (⟨#[]⟩ : ByteArray), .int .i64 0, .slice none 0 0]) (t := 40) ?hr ?_; (case hd => rfl); (case hg => rfl); (case hr => first | (go_simp; done) | (go_simp; rfl)); intro gb276 hg w4 hbox hb; have n0_ := Aside0.mk (blk_below (g := gb275) (o := .cells #[.string a0_0, .int .i64 a0_1, .slice A0_2 l0_2.length c0_2] 40 (0, 0)) zb3_10 hb); have n1_ := Aside0.mk (below_step zb4_10 hb); have n2_ := Aside0.mk (hbox); have n3_ := Aside0.mk ((by rw [hg]; exact (below_size zb4_10) : w.heap.size ≤ gb276)); have n4_ := Aside0.mk ((by rw [hg]; exact (below_size zb4_10) : w.heap.size ≤ gb276)); have n5_ := Aside0.mk ((by rw [hg]; exact Nat.ne_of_lt (blk_lt (g := gb275) (o := .cells #[.string a0_0, .int .i64 a0_1, .slice A0_2 l0_2.length c0_2] 40 (0, 0)) zb3_10) : gb275 ≠ gb276)); have n6_ := Aside0.mk ((by rw [hg]; exact Nat.ne_of_gt (blk_lt (g := gb275) (o := .cells #[.string a0_0, .int .i64 a0_1, .slice A0_2 l0_2.length c0_2] 40 (0, 0)) zb3_10) : gb276 ≠ gb275)); clear BK275; clear HB; have BK275 := n0_; have HB := n1_; have BK276 := n2_; have GW276 := n3_; have GE276 := n4_; have NB275_276 := n5_; have NB276_275 := n6_; clear n0_ n1_ n2_ n3_ n4_ n5_ n6_; clear hb hbox hg; have hnb5 := NB275_276.out; have hnc5 := NB276_275.out; have hcz6_0 := bcq_10 BK275.out 0; have hcz6_1 := bcq_10 BK275.out 1; have hcz6_2 := bcq_10 BK275.out 2; have hfz6_0 := blk_frozen BK275.out 0; have hfz6_1 := blk_frozen BK275.out 1; have hfz6_2 := blk_frozen BK275.out 2) | ((with_reducible refine gate_callee (f := 77) rfl ?_); refine goesL_ (some 5) rfl rfl Tryd.func77 (by kernel_rfl) rfl #[.slice A0_2 l0_2.length c0_2] rfl zb5_10 ?_; (with_reducible refine (impl_Peer.calls _ _ l0_2 t277 _ ?side1 ?side2 A2.out).mono ?_); (case side1 => repeat (first | exact (Kd.C_below HR0_2.out HB.out) | (with_reducible refine Kd.C_alloc ?_ _) | (with_reducible refine Kd.C_drewN ?_ _) | (with_reducible refine Kd.C_drew ?_))); (case side2 => exact HC0_2.out); rintro e w7 ⟨v278, rfl, ho0, hb⟩; refine ⟨_, rfl, ?_⟩; have n0_ := Aside0.mk (Kd.R_lower ho0 (below_size (by repeat (first | (with_reducible first | exact HB.out | apply below_alloc | apply pw_below_drewN | apply below_drew1 | refine below_set ?_ GE275.out | refine below_set ?_ GE276.out) | exact HB.out)))); have n1_ := Aside0.mk (blk_below (g := gb275) (o := .cells #[.string a0_0, .int .i64 a0_1, .slice A0_2 l0_2.length c0_2] 40 (0, 0)) zb3_10 hb); have n2_ := Aside0.mk (blk_below (g := gb276) (o := .cells #[.string (⟨#[]⟩ : ByteArray), .int .i64 0, .slice none 0 0] 40 (0, 0)) (by (with_reducible repeat (first | refine blk_drewN ?_ _ | refine blk_drew ?_ | refine blk_alloc ?_ _)); exact BK276.out) hb); have n3_ := Aside0.mk (below_step (by repeat (first | (with_reducible first | exact HB.out | apply below_alloc | apply pw_below_drewN | apply below_drew1 | refine below_set ?_ GE275.out | refine below_set ?_ GE276.out) | exact HB.out)) hb); clear BK275; clear BK276; clear HB; have HO279 := n0_; have BK275 := n1_; have BK276 := n2_; have HB := n3_; clear n0_ n1_ n2_ n3_; (try clear hb); (try clear hb2); (try clear hk); (try clear hi); (try clear ho0); obtain ⟨Ao8, co8, eo8⟩ := Kd.R_slice HO279.out; subst eo8; have hcz9_0 := bcq_10 BK275.out 0; have hcz9_1 := bcq_10 BK275.out 1; have hcz9_2 := bcq_10 BK275.out 2; have hfz9_0 := blk_frozen BK275.out 0; have hfz9_1 := blk_frozen BK275.out 1; have hfz9_2 := blk_frozen BK275.out 2; have hcz10_0 := bcq_10 BK276.out 0; have hcz10_1 := bcq_10 BK276.out 1; have hcz10_2 := bcq_10 BK276.out 2; have hfz10_0 := blk_frozen BK276.out 0; have hfz10_1 := blk_frozen BK276.out 1; have hfz10_2 := blk_frozen BK276.out 2))
 refine bodyPost_ret (results_cell_row rfl _ _ gb276 40 #[.string a0_0, .int .i64 a0_1, .slice Ao8 t277.length co8] (0, 0) _ rfl (by (with_reducible repeat (first | refine blk_drewN ?_ _ | refine blk_drew ?_ | refine blk_alloc ?_ _)); refine blk_put (cs := #[.string a0_0, .int .i64 a0_1, .slice none 0 0]) ?_ 2 _ rfl; (with_reducible repeat (first | refine blk_drewN ?_ _ | refine blk_drew ?_ | refine blk_alloc ?_ _)); refine blk_put (cs := #[.string a0_0, .int .i64 0, .slice none 0 0]) ?_ 1 _ rfl; (with_reducible repeat (first | refine blk_drewN ?_ _ | refine blk_drew ?_ | refine blk_alloc ?_ _)); refine blk_put (cs := #[.string (⟨#[]⟩ : ByteArray), .int .i64 0, .slice none 0 0]) ?_ 0 _ rfl; (with_reducible repeat (first | refine blk_drewN ?_ _ | refine blk_drew ?_ | refine blk_alloc ?_ _)); refine blk_far ?_ NB276_275.out _; (with_reducible repeat (first | refine blk_drewN ?_ _ | refine blk_drew ?_ | refine blk_alloc ?_ _)); exact BK276.out) Tryd.underlying40 rfl (by kernel_rfl)) rfl ?_
 exact ⟨_, by first | rfl | (simp [errW_none, errW_some] <;> rfl) | (simp [*, errW_none, errW_some] <;> rfl), by (with_reducible repeat (first | apply Kd.R_alloc | apply Kd.R_drewN | apply Kd.R_drew)); exact Kd.R_mono (Kd.R_far (p := ⟨gb276, 2, none⟩) (Kd.R_far (p := ⟨gb276, 1, none⟩) (Kd.R_far (p := ⟨gb276, 0, none⟩) (Kd.R_far (p := ⟨gb275, 2, none⟩) (Kd.R_types (Kd.R_types HO279.out BK275.out (by decide)) BK276.out (by decide)) (fun _ hk => hk.1.2) (.slice Ao8 t277.length co8)) (fun _ hk => hk.2) (.string a0_0)) (fun _ hk => hk.2) (.int .i64 a0_1)) (fun _ hk => hk.2) (.slice Ao8 t277.length co8)) (fun _ hk => trivial), by repeat (first | (with_reducible first | exact HB.out | apply below_alloc | apply pw_below_drewN | apply below_drew1 | refine below_set ?_ GE275.out | refine below_set ?_ GE276.out) | exact HB.out)⟩

/-! ### impl_DbResult: function 35 -/
def impl_DbResult.f (k : Nat) (a0_0 : ByteArray) (a0_1 : Int) (l0_2 : List (S71)) (a1 : Int) (a2 : ByteArray) : Option (ByteArray × Int × (List (S71)) × Int × Int) := (impl_peerAt.f a0_0 a0_1 l0_2 a1).bind fun t282 => ((impl_long.f k (([a2] : List ByteArray))).bind fun t286 => (if t286 = true then (some ((⟨#[]⟩ : ByteArray), 0, ([] : List (S71)), 0, 2)) else ((impl_DialbackRight.f k a0_0 a0_1 l0_2).bind fun t287 => (if t287 = true then (if t282 < 0 then (some ((⟨#[]⟩ : ByteArray), 0, ([] : List (S71)), 0, 6)) else ((impl_in.f (a2.size : Int) 1 64).bind fun t288 => (if t288 = true then (if 0 ≤ t282 then (if t282 < (l0_2.length : Int) then (if ((rd_T71 l0_2 t282).f2) = 0 then ((impl_cloneDialback.f a0_0 a0_1 l0_2).bind fun bt290 => (if t282 < (bt290.2.2.length : Int) then ((some (bt290.2.2.set (t282 : Int).toNat (⟨(rd_T71 bt290.2.2 t282).f0, (rd_T71 bt290.2.2 t282).f1, (rd_T71 bt290.2.2 t282).f2, a2⟩ : S71) : List (S71))).bind fun y296 => (some (bt290.1, bt290.2.1, (y296.set (t282 : Int).toNat (⟨(rd_T71 y296 t282).f0, (rd_T71 y296 t282).f1, 1, (rd_T71 y296 t282).f3⟩ : S71)), 0, 0))) else (none))) else (some ((⟨#[]⟩ : ByteArray), 0, ([] : List (S71)), 0, 10))) else (none)) else (none)) else (some ((⟨#[]⟩ : ByteArray), 0, ([] : List (S71)), 0, 1))))) else (some ((⟨#[]⟩ : ByteArray), 0, ([] : List (S71)), 0, 1))))))
theorem impl_DbResult.mono : ∀ a0 a1 a2 a3 a4 k, LeO (impl_DbResult.f k a0 a1 a2 a3 a4) (impl_DbResult.f (k + 1) a0 a1 a2 a3 a4) := by
 intro a0 a1 a2 a3 a4 k
 unfold impl_DbResult.f
 repeat' first
   | (with_reducible exact impl_DialbackRight.mono _ _ _ _)
   | (with_reducible exact impl_long.mono _ _)
   | (with_reducible exact LeO.refl _)
   | (with_reducible exact LeO.none _)
   | (with_reducible refine LeO.ite ?_ ?_)
   | (with_reducible refine LeO.bind ?_ (fun _ => ?_))
   | exact impl_DialbackRight.mono _ _ _ _
   | exact impl_long.mono _ _
   | exact LeO.none _
   | refine LeO.ite ?_ ?_
   | refine LeO.bind ?_ (fun _ => ?_)
set_option maxHeartbeats 8000000 in
set_option maxRecDepth 100000 in
theorem impl_DbResult.calls (k : Nat) (a0_0 : ByteArray) (a0_1 : Int) (A0_2 : Option Addr) (c0_2 : Nat) (l0_2 : List (S71)) (a1 : Int) (a2 : ByteArray) (r1 : ByteArray) (r2 : Int) (r3 : List (S71)) (r4 : Int) (r5 : Int) (w : World) (hr0_2 : Kd.C k71 w A0_2 l0_2.length l0_2) (hc0_2 : l0_2.length ≤ c0_2) (h : impl_DbResult.f k a0_0 a0_1 l0_2 a1 a2 = some (r1, r2, r3, r4, r5)) (hmx : MaxIs w) :
  Calls Tryd.prog 35 #[.agg #[.string a0_0, .int .i64 a0_1, .slice A0_2 l0_2.length c0_2], .int .i64 a1, .string a2] w fun e w' => ∃ v2_ : Value, e = .returned (.agg #[.string r1, .int .i64 r2, v2_, .int .i64 r4, .int .i64 r5]) ∧ Kd.R k71 71 w' w.heap.size (fun _ => True) v2_ r3 ∧ Below w.heap.size w w' := by
 have hu40 := Tryd.underlying40
 have hu51 := Tryd.underlying51
 have HR0_2 := Aside0.mk hr0_2
 have HC0_2 := Aside0.mk hc0_2
 clear hr0_2 hc0_2
 have HB := Aside0.mk (Below.refl w.heap.size w)
 have H : ((impl_peerAt.f a0_0 a0_1 l0_2 a1).bind fun t282 => ((impl_long.f k (([a2] : List ByteArray))).bind fun t286 => (if t286 = true then (some ((⟨#[]⟩ : ByteArray), 0, ([] : List (S71)), 0, 2)) else ((impl_DialbackRight.f k a0_0 a0_1 l0_2).bind fun t287 => (if t287 = true then (if t282 < 0 then (some ((⟨#[]⟩ : ByteArray), 0, ([] : List (S71)), 0, 6)) else ((impl_in.f (a2.size : Int) 1 64).bind fun t288 => (if t288 = true then (if 0 ≤ t282 then (if t282 < (l0_2.length : Int) then (if ((rd_T71 l0_2 t282).f2) = 0 then ((impl_cloneDialback.f a0_0 a0_1 l0_2).bind fun bt290 => (if t282 < (bt290.2.2.length : Int) then ((some (bt290.2.2.set (t282 : Int).toNat (⟨(rd_T71 bt290.2.2 t282).f0, (rd_T71 bt290.2.2 t282).f1, (rd_T71 bt290.2.2 t282).f2, a2⟩ : S71) : List (S71))).bind fun y296 => (some (bt290.1, bt290.2.1, (y296.set (t282 : Int).toNat (⟨(rd_T71 y296 t282).f0, (rd_T71 y296 t282).f1, 1, (rd_T71 y296 t282).f3⟩ : S71)), 0, 0))) else (none))) else (some ((⟨#[]⟩ : ByteArray), 0, ([] : List (S71)), 0, 10))) else (none)) else (none)) else (some ((⟨#[]⟩ : ByteArray), 0, ([] : List (S71)), 0, 1))))) else (some ((⟨#[]⟩ : ByteArray), 0, ([] : List (S71)), 0, 1))))))) = some (r1, r2, r3, r4, r5) := h
 clear h
 replace H := Option.bind_eq_some_iff.mp H
 obtain ⟨t282, A40, H⟩ := H
 replace H : ((impl_long.f k (([a2] : List ByteArray))).bind fun t286 => (if t286 = true then (some ((⟨#[]⟩ : ByteArray), 0, ([] : List (S71)), 0, 2)) else ((impl_DialbackRight.f k a0_0 a0_1 l0_2).bind fun t287 => (if t287 = true then (if t282 < 0 then (some ((⟨#[]⟩ : ByteArray), 0, ([] : List (S71)), 0, 6)) else ((impl_in.f (a2.size : Int) 1 64).bind fun t288 => (if t288 = true then (if 0 ≤ t282 then (if t282 < (l0_2.length : Int) then (if ((rd_T71 l0_2 t282).f2) = 0 then ((impl_cloneDialback.f a0_0 a0_1 l0_2).bind fun bt290 => (if t282 < (bt290.2.2.length : Int) then ((some (bt290.2.2.set (t282 : Int).toNat (⟨(rd_T71 bt290.2.2 t282).f0, (rd_T71 bt290.2.2 t282).f1, (rd_T71 bt290.2.2 t282).f2, a2⟩ : S71) : List (S71))).bind fun y296 => (some (bt290.1, bt290.2.1, (y296.set (t282 : Int).toNat (⟨(rd_T71 y296 t282).f0, (rd_T71 y296 t282).f1, 1, (rd_T71 y296 t282).f3⟩ : S71)), 0, 0))) else (none))) else (some ((⟨#[]⟩ : ByteArray), 0, ([] : List (S71)), 0, 10))) else (none)) else (none)) else (some ((⟨#[]⟩ : ByteArray), 0, ([] : List (S71)), 0, 1))))) else (some ((⟨#[]⟩ : ByteArray), 0, ([] : List (S71)), 0, 1)))))) = some (r1, r2, r3, r4, r5) := H
 have A4 := Aside0.mk A40
 clear A40
 obtain ⟨y283, hy283⟩ : ∃ y_ : List ByteArray, y_ = (([a2] : List ByteArray)) := ⟨_, rfl⟩
 replace H : ((impl_long.f k y283).bind fun t286 => (if t286 = true then (some ((⟨#[]⟩ : ByteArray), 0, ([] : List (S71)), 0, 2)) else ((impl_DialbackRight.f k a0_0 a0_1 l0_2).bind fun t287 => (if t287 = true then (if t282 < 0 then (some ((⟨#[]⟩ : ByteArray), 0, ([] : List (S71)), 0, 6)) else ((impl_in.f (a2.size : Int) 1 64).bind fun t288 => (if t288 = true then (if 0 ≤ t282 then (if t282 < (l0_2.length : Int) then (if ((rd_T71 l0_2 t282).f2) = 0 then ((impl_cloneDialback.f a0_0 a0_1 l0_2).bind fun bt290 => (if t282 < (bt290.2.2.length : Int) then ((some (bt290.2.2.set (t282 : Int).toNat (⟨(rd_T71 bt290.2.2 t282).f0, (rd_T71 bt290.2.2 t282).f1, (rd_T71 bt290.2.2 t282).f2, a2⟩ : S71) : List (S71))).bind fun y296 => (some (bt290.1, bt290.2.1, (y296.set (t282 : Int).toNat (⟨(rd_T71 y296 t282).f0, (rd_T71 y296 t282).f1, 1, (rd_T71 y296 t282).f3⟩ : S71)), 0, 0))) else (none))) else (some ((⟨#[]⟩ : ByteArray), 0, ([] : List (S71)), 0, 10))) else (none)) else (none)) else (some ((⟨#[]⟩ : ByteArray), 0, ([] : List (S71)), 0, 1))))) else (some ((⟨#[]⟩ : ByteArray), 0, ([] : List (S71)), 0, 1)))))) = some (r1, r2, r3, r4, r5) := by first | (rw [hy283]; with_reducible exact H) | (have H2_ := (Option.bind_some _ _).symm.trans H; rw [hy283]; with_reducible exact H2_) | (have H2_ := (Option.bind_some _ _).symm.trans H; with_reducible exact H2_) | with_reducible exact H | (rw [hy283]; exact H) | exact H
 have Ny283 := Aside0.mk hy283
 clear hy283
 replace H := Option.bind_eq_some_iff.mp H
 obtain ⟨t286, A50, H⟩ := H
 replace H : (if t286 = true then (some ((⟨#[]⟩ : ByteArray), 0, ([] : List (S71)), 0, 2)) else ((impl_DialbackRight.f k a0_0 a0_1 l0_2).bind fun t287 => (if t287 = true then (if t282 < 0 then (some ((⟨#[]⟩ : ByteArray), 0, ([] : List (S71)), 0, 6)) else ((impl_in.f (a2.size : Int) 1 64).bind fun t288 => (if t288 = true then (if 0 ≤ t282 then (if t282 < (l0_2.length : Int) then (if ((rd_T71 l0_2 t282).f2) = 0 then ((impl_cloneDialback.f a0_0 a0_1 l0_2).bind fun bt290 => (if t282 < (bt290.2.2.length : Int) then ((some (bt290.2.2.set (t282 : Int).toNat (⟨(rd_T71 bt290.2.2 t282).f0, (rd_T71 bt290.2.2 t282).f1, (rd_T71 bt290.2.2 t282).f2, a2⟩ : S71) : List (S71))).bind fun y296 => (some (bt290.1, bt290.2.1, (y296.set (t282 : Int).toNat (⟨(rd_T71 y296 t282).f0, (rd_T71 y296 t282).f1, 1, (rd_T71 y296 t282).f3⟩ : S71)), 0, 0))) else (none))) else (some ((⟨#[]⟩ : ByteArray), 0, ([] : List (S71)), 0, 10))) else (none)) else (none)) else (some ((⟨#[]⟩ : ByteArray), 0, ([] : List (S71)), 0, 1))))) else (some ((⟨#[]⟩ : ByteArray), 0, ([] : List (S71)), 0, 1))))) = some (r1, r2, r3, r4, r5) := H
 have A5 := Aside0.mk A50
 clear A50
 by_cases c6 : t286 = true
 ·
  subst c6
  have H1 : (some ((⟨#[]⟩ : ByteArray), 0, ([] : List (S71)), 0, 2)) = some (r1, r2, r3, r4, r5) := by rw [if_pos rfl] at H; exact H
  clear H
  have H := H1
  clear H1
  simp only [Option.some.injEq, Prod.mk.injEq] at H
  obtain ⟨rfl, rfl, rfl, rfl, rfl⟩ := H
  go_enter Tryd.func35, Tryd.ntmps35
  go_wp2_with (first | ((with_reducible refine gate_dst (N := 3) rfl ?_); refine box_event ?hg (N := 3) ?hd (cs := #[.string a0_0, .int .i64 a0_1, .slice A0_2 l0_2.length c0_2]) (t := 40) ?hr ?_; (case hd => rfl); (case hg => rfl); (case hr => first | (go_simp; done) | (go_simp; rfl)); intro gb280 hg w7 hbox hb; have n0_ := Aside0.mk (below_step zb1_10 hb); have n1_ := Aside0.mk (hbox); have n2_ := Aside0.mk ((zb2_10 : w.heap.size ≤ gb280)); have n3_ := Aside0.mk ((zb2_10 : w.heap.size ≤ gb280)); clear HB; have HB := n0_; have BK280 := n1_; have GW280 := n2_; have GE280 := n3_; clear n0_ n1_ n2_ n3_; clear hb hbox hg) | ((with_reducible refine gate_dst (N := 6) rfl ?_); refine box_event ?hg (N := 6) ?hd (cs := #[.string (⟨#[]⟩ : ByteArray), .int .i64 0, .slice none 0 0, .int .i64 0, .int .i64 0]) (t := 51) ?hr ?_; (case hd => rfl); (case hg => rfl); (case hr => first | (go_simp; done) | (go_simp; rfl)); intro gb281 hg w8 hbox hb; have n0_ := Aside0.mk (blk_below (g := gb280) (o := .cells #[.string a0_0, .int .i64 a0_1, .slice A0_2 l0_2.length c0_2] 40 (0, 0)) zb6_10 hb); have n1_ := Aside0.mk (below_step zb7_10 hb); have n2_ := Aside0.mk (hbox); have n3_ := Aside0.mk ((zb8_10 : w.heap.size ≤ gb281)); have n4_ := Aside0.mk ((zb8_10 : w.heap.size ≤ gb281)); have n5_ := Aside0.mk ((zb9_10 : gb280 ≠ gb281)); have n6_ := Aside0.mk ((zb10_10 : gb281 ≠ gb280)); clear BK280; clear HB; have BK280 := n0_; have HB := n1_; have BK281 := n2_; have GW281 := n3_; have GE281 := n4_; have NB280_281 := n5_; have NB281_280 := n6_; clear n0_ n1_ n2_ n3_ n4_ n5_ n6_; clear hb hbox hg; have hnb9 := NB280_281.out; have hnc9 := NB281_280.out; have hcz10_0 := bcq_10 BK280.out 0; have hcz10_1 := bcq_10 BK280.out 1; have hcz10_2 := bcq_10 BK280.out 2; have hfz10_0 := blk_frozen BK280.out 0; have hfz10_1 := blk_frozen BK280.out 1; have hfz10_2 := blk_frozen BK280.out 2) | ((with_reducible refine gate_callee (f := 54) rfl ?_); refine goesL_ (some 11) rfl rfl Tryd.func54 (by kernel_rfl) rfl #[.agg #[.string a0_0, .int .i64 a0_1, .slice A0_2 l0_2.length c0_2], .int .i64 a1] rfl zb5_10 ?_; (with_reducible refine (impl_peerAt.calls a0_0 a0_1 _ _ l0_2 a1 t282 _ ?side1 ?side2 A4.out).mono ?_); (case side1 => repeat (first | exact (Kd.C_below HR0_2.out HB.out) | (with_reducible refine Kd.C_alloc ?_ _) | (with_reducible refine Kd.C_drewN ?_ _) | (with_reducible refine Kd.C_drew ?_))); (case side2 => exact HC0_2.out); rintro e w11 ⟨rfl, hb⟩; refine ⟨_, rfl, ?_⟩; have n0_ := Aside0.mk (blk_below (g := gb280) (o := .cells #[.string a0_0, .int .i64 a0_1, .slice A0_2 l0_2.length c0_2] 40 (0, 0)) zb6_10 hb); have n1_ := Aside0.mk (blk_below (g := gb281) (o := .cells #[.string (⟨#[]⟩ : ByteArray), .int .i64 0, .slice none 0 0, .int .i64 0, .int .i64 0] 51 (0, 0)) zb11_10 hb); have n2_ := Aside0.mk (below_step zb12_10 hb); clear BK280; clear BK281; clear HB; have BK280 := n0_; have BK281 := n1_; have HB := n2_; clear n0_ n1_ n2_; (try clear hb); (try clear hb2); (try clear hk); (try clear hi)) | ((with_reducible refine gate_dst (N := 14) rfl ?_); refine Kd.R_lit Kd.string _ 9 ?hg (N := 14) ?hd (xs := ([a2] : List ByteArray)) (inner := [.string a2]) (ok := fun _ => True) (okp := fun _ => True) ?hr ?hp (fun _ hk => hk) trivial (Below.refl _ _) (Nat.le_refl _) (by simp) ?_; (case hd => rfl); (case hg => rfl); (case hr => first | (go_simp; done) | (go_simp; rfl)); (case hp => exact (Reps.one (show Kd.M Kd.string _ _ _ a2 [.string a2] from rfl) (Reps.none _ _))); intro v284 w12 ho13 hb hg_ hnew_; clear hg_ hnew_; (first | rw [← Ny283.out] at ho13 | (simp only [Int.reduceToNat] at ho13; rw [← Ny283.out] at ho13)); have n0_ := Aside0.mk (Kd.R_lower ho13 (below_size zb12_10)); have n1_ := Aside0.mk (blk_below (g := gb280) (o := .cells #[.string a0_0, .int .i64 a0_1, .slice A0_2 l0_2.length c0_2] 40 (0, 0)) zb6_10 hb); have n2_ := Aside0.mk (blk_below (g := gb281) (o := .cells #[.string (⟨#[]⟩ : ByteArray), .int .i64 0, .slice none 0 0, .int .i64 0, .int .i64 0] 51 (0, 0)) zb11_10 hb); have n3_ := Aside0.mk (below_step zb12_10 hb); clear BK280; clear BK281; clear HB; have HO285 := n0_; have BK280 := n1_; have BK281 := n2_; have HB := n3_; clear n0_ n1_ n2_ n3_; clear hb ho13; obtain ⟨Ao14, co14, eo14⟩ := Kd.R_slice HO285.out; subst eo14) | ((with_reducible refine gate_callee (f := 59) rfl ?_); refine goesL_ (some 15) rfl rfl Tryd.func59 (by kernel_rfl) rfl #[.slice Ao14 y283.length co14] rfl zb5_10 ?_; (with_reducible refine (impl_long.calls k _ _ y283 true _ ?side1 ?side2 A5.out).mono ?_); (case side1 => repeat (first | exact (Kd.R_reads' HO285.out).2.2 | (with_reducible refine Kd.C_alloc ?_ _) | (with_reducible refine Kd.C_drewN ?_ _) | (with_reducible refine Kd.C_drew ?_))); (case side2 => exact (Kd.R_reads' HO285.out).2.1); rintro e w' ⟨rfl, ⟨nd, rfl⟩⟩; refine ⟨_, rfl, ?_⟩; (try (rw [drewN_self w12]; generalize hq_ : World.drewN w12 _ = w12; have n0_ : Aside0 (Kd.R Kd.string 9 w12 w.heap.size (fun _ => True) (.slice Ao14 y283.length co14) y283) := ⟨by rw [← hq_]; exact zb13_10⟩; have n1_ : Aside0 (w12.heap[gb280]? = some (.cells #[.string a0_0, .int .i64 a0_1, .slice A0_2 l0_2.length c0_2] 40 (0, 0))) := ⟨by rw [← hq_]; exact zb6_10⟩; have n2_ : Aside0 (w12.heap[gb281]? = some (.cells #[.string (⟨#[]⟩ : ByteArray), .int .i64 0, .slice none 0 0, .int .i64 0, .int .i64 0] 51 (0, 0))) := ⟨by rw [← hq_]; exact zb11_10⟩; have n3_ : Aside0 (Below w.heap.size w w12) := ⟨by rw [← hq_]; exact zb12_10⟩; clear HO285 BK280 BK281 HB hq_; have HO285 := n0_; have BK280 := n1_; have BK281 := n2_; have HB := n3_; clear n0_ n1_ n2_ n3_)); have hcz15_0 := bcq_10 BK281.out 0; have hcz15_1 := bcq_10 BK281.out 1; have hcz15_2 := bcq_10 BK281.out 2; have hcz15_3 := bcq_10 BK281.out 3; have hcz15_4 := bcq_10 BK281.out 4; have hfz15_0 := blk_frozen BK281.out 0; have hfz15_1 := blk_frozen BK281.out 1; have hfz15_2 := blk_frozen BK281.out 2; have hfz15_3 := blk_frozen BK281.out 3; have hfz15_4 := blk_frozen BK281.out 4))
  refine bodyPost_ret (results_cell_row rfl _ _ gb281 51 #[.string (⟨#[]⟩ : ByteArray), .int .i64 0, .slice none 0 0, .int .i64 0, .int .i64 2] (0, 0) _ rfl zb14_10 Tryd.underlying51 rfl (by kernel_rfl)) rfl ?_
  exact ⟨_, by first | rfl | (simp [errW_none, errW_some] <;> rfl) | (simp [*, errW_none, errW_some] <;> rfl), by first | exact Kd.R_nil _ _ _ _ _ | exact Kd.N_nil _ _ _ _ _ | exact Kd.V_nil _ _ _ _ _ | exact Kd.Q_nil _ _ _ _ _ | exact Kd.S_nil _ _ _ _ _, by repeat (first | (with_reducible first | exact HB.out | apply below_alloc | apply pw_below_drewN | apply below_drew1 | refine below_set ?_ GE280.out | refine below_set ?_ GE281.out) | exact HB.out)⟩
 ·
  replace c6 := Bool.eq_false_iff.mpr c6
  subst c6
  have H1 : ((impl_DialbackRight.f k a0_0 a0_1 l0_2).bind fun t287 => (if t287 = true then (if t282 < 0 then (some ((⟨#[]⟩ : ByteArray), 0, ([] : List (S71)), 0, 6)) else ((impl_in.f (a2.size : Int) 1 64).bind fun t288 => (if t288 = true then (if 0 ≤ t282 then (if t282 < (l0_2.length : Int) then (if ((rd_T71 l0_2 t282).f2) = 0 then ((impl_cloneDialback.f a0_0 a0_1 l0_2).bind fun bt290 => (if t282 < (bt290.2.2.length : Int) then ((some (bt290.2.2.set (t282 : Int).toNat (⟨(rd_T71 bt290.2.2 t282).f0, (rd_T71 bt290.2.2 t282).f1, (rd_T71 bt290.2.2 t282).f2, a2⟩ : S71) : List (S71))).bind fun y296 => (some (bt290.1, bt290.2.1, (y296.set (t282 : Int).toNat (⟨(rd_T71 y296 t282).f0, (rd_T71 y296 t282).f1, 1, (rd_T71 y296 t282).f3⟩ : S71)), 0, 0))) else (none))) else (some ((⟨#[]⟩ : ByteArray), 0, ([] : List (S71)), 0, 10))) else (none)) else (none)) else (some ((⟨#[]⟩ : ByteArray), 0, ([] : List (S71)), 0, 1))))) else (some ((⟨#[]⟩ : ByteArray), 0, ([] : List (S71)), 0, 1)))) = some (r1, r2, r3, r4, r5) := by rw [if_neg (show ¬ (false = true) by decide)] at H; exact H
  clear H
  have H := H1
  clear H1
  replace H := Option.bind_eq_some_iff.mp H
  obtain ⟨t287, A160, H⟩ := H
  replace H : (if t287 = true then (if t282 < 0 then (some ((⟨#[]⟩ : ByteArray), 0, ([] : List (S71)), 0, 6)) else ((impl_in.f (a2.size : Int) 1 64).bind fun t288 => (if t288 = true then (if 0 ≤ t282 then (if t282 < (l0_2.length : Int) then (if ((rd_T71 l0_2 t282).f2) = 0 then ((impl_cloneDialback.f a0_0 a0_1 l0_2).bind fun bt290 => (if t282 < (bt290.2.2.length : Int) then ((some (bt290.2.2.set (t282 : Int).toNat (⟨(rd_T71 bt290.2.2 t282).f0, (rd_T71 bt290.2.2 t282).f1, (rd_T71 bt290.2.2 t282).f2, a2⟩ : S71) : List (S71))).bind fun y296 => (some (bt290.1, bt290.2.1, (y296.set (t282 : Int).toNat (⟨(rd_T71 y296 t282).f0, (rd_T71 y296 t282).f1, 1, (rd_T71 y296 t282).f3⟩ : S71)), 0, 0))) else (none))) else (some ((⟨#[]⟩ : ByteArray), 0, ([] : List (S71)), 0, 10))) else (none)) else (none)) else (some ((⟨#[]⟩ : ByteArray), 0, ([] : List (S71)), 0, 1))))) else (some ((⟨#[]⟩ : ByteArray), 0, ([] : List (S71)), 0, 1))) = some (r1, r2, r3, r4, r5) := H
  have A16 := Aside0.mk A160
  clear A160
  by_cases c17 : t287 = true
  ·
   subst c17
   have H1 : (if t282 < 0 then (some ((⟨#[]⟩ : ByteArray), 0, ([] : List (S71)), 0, 6)) else ((impl_in.f (a2.size : Int) 1 64).bind fun t288 => (if t288 = true then (if 0 ≤ t282 then (if t282 < (l0_2.length : Int) then (if ((rd_T71 l0_2 t282).f2) = 0 then ((impl_cloneDialback.f a0_0 a0_1 l0_2).bind fun bt290 => (if t282 < (bt290.2.2.length : Int) then ((some (bt290.2.2.set (t282 : Int).toNat (⟨(rd_T71 bt290.2.2 t282).f0, (rd_T71 bt290.2.2 t282).f1, (rd_T71 bt290.2.2 t282).f2, a2⟩ : S71) : List (S71))).bind fun y296 => (some (bt290.1, bt290.2.1, (y296.set (t282 : Int).toNat (⟨(rd_T71 y296 t282).f0, (rd_T71 y296 t282).f1, 1, (rd_T71 y296 t282).f3⟩ : S71)), 0, 0))) else (none))) else (some ((⟨#[]⟩ : ByteArray), 0, ([] : List (S71)), 0, 10))) else (none)) else (none)) else (some ((⟨#[]⟩ : ByteArray), 0, ([] : List (S71)), 0, 1))))) = some (r1, r2, r3, r4, r5) := by rw [if_pos rfl] at H; exact H
   clear H
   have H := H1
   clear H1
   by_cases c18 : t282 < 0
   ·
    rw [if_pos c18] at H
    have c18b0 : decide (t282 < 0) = true := decide_eq_true c18
    clear c18
    simp only [Option.some.injEq, Prod.mk.injEq] at H
    obtain ⟨rfl, rfl, rfl, rfl, rfl⟩ := H
    go_enter Tryd.func35, Tryd.ntmps35
    go_wp2_with (first | ((with_reducible refine gate_dst (N := 3) rfl ?_); refine box_event ?hg (N := 3) ?hd (cs := #[.string a0_0, .int .i64 a0_1, .slice A0_2 l0_2.length c0_2]) (t := 40) ?hr ?_; (case hd => rfl); (case hg => rfl); (case hr => first | (go_simp; done) | (go_simp; rfl)); intro gb280 hg w19 hbox hb; have n0_ := Aside0.mk (below_step zb1_10 hb); have n1_ := Aside0.mk (hbox); have n2_ := Aside0.mk ((zb2_10 : w.heap.size ≤ gb280)); have n3_ := Aside0.mk ((zb2_10 : w.heap.size ≤ gb280)); clear HB; have HB := n0_; have BK280 := n1_; have GW280 := n2_; have GE280 := n3_; clear n0_ n1_ n2_ n3_; clear hb hbox hg) | ((with_reducible refine gate_dst (N := 6) rfl ?_); refine box_event ?hg (N := 6) ?hd (cs := #[.string (⟨#[]⟩ : ByteArray), .int .i64 0, .slice none 0 0, .int .i64 0, .int .i64 0]) (t := 51) ?hr ?_; (case hd => rfl); (case hg => rfl); (case hr => first | (go_simp; done) | (go_simp; rfl)); intro gb281 hg w20 hbox hb; have n0_ := Aside0.mk (blk_below (g := gb280) (o := .cells #[.string a0_0, .int .i64 a0_1, .slice A0_2 l0_2.length c0_2] 40 (0, 0)) zb6_10 hb); have n1_ := Aside0.mk (below_step zb7_10 hb); have n2_ := Aside0.mk (hbox); have n3_ := Aside0.mk ((zb8_10 : w.heap.size ≤ gb281)); have n4_ := Aside0.mk ((zb8_10 : w.heap.size ≤ gb281)); have n5_ := Aside0.mk ((zb9_10 : gb280 ≠ gb281)); have n6_ := Aside0.mk ((zb10_10 : gb281 ≠ gb280)); clear BK280; clear HB; have BK280 := n0_; have HB := n1_; have BK281 := n2_; have GW281 := n3_; have GE281 := n4_; have NB280_281 := n5_; have NB281_280 := n6_; clear n0_ n1_ n2_ n3_ n4_ n5_ n6_; clear hb hbox hg; have hnb21 := NB280_281.out; have hnc21 := NB281_280.out; have hcz22_0 := bcq_10 BK280.out 0; have hcz22_1 := bcq_10 BK280.out 1; have hcz22_2 := bcq_10 BK280.out 2; have hfz22_0 := blk_frozen BK280.out 0; have hfz22_1 := blk_frozen BK280.out 1; have hfz22_2 := blk_frozen BK280.out 2) | ((with_reducible refine gate_callee (f := 54) rfl ?_); refine goesL_ (some 11) rfl rfl Tryd.func54 (by kernel_rfl) rfl #[.agg #[.string a0_0, .int .i64 a0_1, .slice A0_2 l0_2.length c0_2], .int .i64 a1] rfl zb5_10 ?_; (with_reducible refine (impl_peerAt.calls a0_0 a0_1 _ _ l0_2 a1 t282 _ ?side1 ?side2 A4.out).mono ?_); (case side1 => repeat (first | exact (Kd.C_below HR0_2.out HB.out) | (with_reducible refine Kd.C_alloc ?_ _) | (with_reducible refine Kd.C_drewN ?_ _) | (with_reducible refine Kd.C_drew ?_))); (case side2 => exact HC0_2.out); rintro e w23 ⟨rfl, hb⟩; refine ⟨_, rfl, ?_⟩; have n0_ := Aside0.mk (blk_below (g := gb280) (o := .cells #[.string a0_0, .int .i64 a0_1, .slice A0_2 l0_2.length c0_2] 40 (0, 0)) zb6_10 hb); have n1_ := Aside0.mk (blk_below (g := gb281) (o := .cells #[.string (⟨#[]⟩ : ByteArray), .int .i64 0, .slice none 0 0, .int .i64 0, .int .i64 0] 51 (0, 0)) zb11_10 hb); have n2_ := Aside0.mk (below_step zb12_10 hb); clear BK280; clear BK281; clear HB; have BK280 := n0_; have BK281 := n1_; have HB := n2_; clear n0_ n1_ n2_; (try clear hb); (try clear hb2); (try clear hk); (try clear hi)) | ((with_reducible refine gate_dst (N := 14) rfl ?_); refine Kd.R_lit Kd.string _ 9 ?hg (N := 14) ?hd (xs := ([a2] : List ByteArray)) (inner := [.string a2]) (ok := fun _ => True) (okp := fun _ => True) ?hr ?hp (fun _ hk => hk) trivial (Below.refl _ _) (Nat.le_refl _) (by simp) ?_; (case hd => rfl); (case hg => rfl); (case hr => first | (go_simp; done) | (go_simp; rfl)); (case hp => exact (Reps.one (show Kd.M Kd.string _ _ _ a2 [.string a2] from rfl) (Reps.none _ _))); intro v284 w24 ho25 hb hg_ hnew_; clear hg_ hnew_; (first | rw [← Ny283.out] at ho25 | (simp only [Int.reduceToNat] at ho25; rw [← Ny283.out] at ho25)); have n0_ := Aside0.mk (Kd.R_lower ho25 (below_size zb12_10)); have n1_ := Aside0.mk (blk_below (g := gb280) (o := .cells #[.string a0_0, .int .i64 a0_1, .slice A0_2 l0_2.length c0_2] 40 (0, 0)) zb6_10 hb); have n2_ := Aside0.mk (blk_below (g := gb281) (o := .cells #[.string (⟨#[]⟩ : ByteArray), .int .i64 0, .slice none 0 0, .int .i64 0, .int .i64 0] 51 (0, 0)) zb11_10 hb); have n3_ := Aside0.mk (below_step zb12_10 hb); clear BK280; clear BK281; clear HB; have HO285 := n0_; have BK280 := n1_; have BK281 := n2_; have HB := n3_; clear n0_ n1_ n2_ n3_; clear hb ho25; obtain ⟨Ao26, co26, eo26⟩ := Kd.R_slice HO285.out; subst eo26) | ((with_reducible refine gate_callee (f := 59) rfl ?_); refine goesL_ (some 15) rfl rfl Tryd.func59 (by kernel_rfl) rfl #[.slice Ao26 y283.length co26] rfl zb5_10 ?_; (with_reducible refine (impl_long.calls k _ _ y283 false _ ?side1 ?side2 A5.out).mono ?_); (case side1 => repeat (first | exact (Kd.R_reads' HO285.out).2.2 | (with_reducible refine Kd.C_alloc ?_ _) | (with_reducible refine Kd.C_drewN ?_ _) | (with_reducible refine Kd.C_drew ?_))); (case side2 => exact (Kd.R_reads' HO285.out).2.1); rintro e w' ⟨rfl, ⟨nd, rfl⟩⟩; refine ⟨_, rfl, ?_⟩; (try (rw [drewN_self w24]; generalize hq_ : World.drewN w24 _ = w24; have n0_ : Aside0 (Kd.R Kd.string 9 w24 w.heap.size (fun _ => True) (.slice Ao26 y283.length co26) y283) := ⟨by rw [← hq_]; exact zb13_10⟩; have n1_ : Aside0 (w24.heap[gb280]? = some (.cells #[.string a0_0, .int .i64 a0_1, .slice A0_2 l0_2.length c0_2] 40 (0, 0))) := ⟨by rw [← hq_]; exact zb6_10⟩; have n2_ : Aside0 (w24.heap[gb281]? = some (.cells #[.string (⟨#[]⟩ : ByteArray), .int .i64 0, .slice none 0 0, .int .i64 0, .int .i64 0] 51 (0, 0))) := ⟨by rw [← hq_]; exact zb11_10⟩; have n3_ : Aside0 (Below w.heap.size w w24) := ⟨by rw [← hq_]; exact zb12_10⟩; clear HO285 BK280 BK281 HB hq_; have HO285 := n0_; have BK280 := n1_; have BK281 := n2_; have HB := n3_; clear n0_ n1_ n2_ n3_)); have hcz27_0 := bcq_10 BK280.out 0; have hcz27_1 := bcq_10 BK280.out 1; have hcz27_2 := bcq_10 BK280.out 2; have hfz27_0 := blk_frozen BK280.out 0; have hfz27_1 := blk_frozen BK280.out 1; have hfz27_2 := blk_frozen BK280.out 2) | ((with_reducible refine gate_callee (f := 18) rfl ?_); refine goesL_ (some 19) rfl rfl Tryd.func18 (by kernel_rfl) rfl #[.agg #[.string a0_0, .int .i64 a0_1, .slice A0_2 l0_2.length c0_2]] rfl zb5_10 ?_; (with_reducible refine (impl_DialbackRight.calls k a0_0 a0_1 _ _ l0_2 true _ ?side1 ?side2 A16.out zb15_10).mono ?_); (case side1 => repeat (first | exact (Kd.C_below HR0_2.out HB.out) | (with_reducible refine Kd.C_alloc ?_ _) | (with_reducible refine Kd.C_drewN ?_ _) | (with_reducible refine Kd.C_drew ?_))); (case side2 => exact HC0_2.out); rintro e w28 ⟨rfl, hb⟩; refine ⟨_, rfl, ?_⟩; have n0_ := Aside0.mk (Kd.R_below zb13_10 hb); have n1_ := Aside0.mk (blk_below (g := gb280) (o := .cells #[.string a0_0, .int .i64 a0_1, .slice A0_2 l0_2.length c0_2] 40 (0, 0)) zb6_10 hb); have n2_ := Aside0.mk (blk_below (g := gb281) (o := .cells #[.string (⟨#[]⟩ : ByteArray), .int .i64 0, .slice none 0 0, .int .i64 0, .int .i64 0] 51 (0, 0)) zb11_10 hb); have n3_ := Aside0.mk (below_step zb12_10 hb); clear HO285; clear BK280; clear BK281; clear HB; have HO285 := n0_; have BK280 := n1_; have BK281 := n2_; have HB := n3_; clear n0_ n1_ n2_ n3_; (try clear hb); (try clear hb2); (try clear hk); (try clear hi); have hcz29_0 := bcq_10 BK281.out 0; have hcz29_1 := bcq_10 BK281.out 1; have hcz29_2 := bcq_10 BK281.out 2; have hcz29_3 := bcq_10 BK281.out 3; have hcz29_4 := bcq_10 BK281.out 4; have hfz29_0 := blk_frozen BK281.out 0; have hfz29_1 := blk_frozen BK281.out 1; have hfz29_2 := blk_frozen BK281.out 2; have hfz29_3 := blk_frozen BK281.out 3; have hfz29_4 := blk_frozen BK281.out 4))
    refine bodyPost_ret (results_cell_row rfl _ _ gb281 51 #[.string (⟨#[]⟩ : ByteArray), .int .i64 0, .slice none 0 0, .int .i64 0, .int .i64 6] (0, 0) _ rfl zb14_10 Tryd.underlying51 rfl (by kernel_rfl)) rfl ?_
    exact ⟨_, by first | rfl | (simp [errW_none, errW_some] <;> rfl) | (simp [*, errW_none, errW_some] <;> rfl), by first | exact Kd.R_nil _ _ _ _ _ | exact Kd.N_nil _ _ _ _ _ | exact Kd.V_nil _ _ _ _ _ | exact Kd.Q_nil _ _ _ _ _ | exact Kd.S_nil _ _ _ _ _, by repeat (first | (with_reducible first | exact HB.out | apply below_alloc | apply pw_below_drewN | apply below_drew1 | refine below_set ?_ GE280.out | refine below_set ?_ GE281.out) | exact HB.out)⟩
   ·
    rw [if_neg c18] at H
    have c18b0 : decide (t282 < 0) = false := decide_eq_false c18
    clear c18
    replace H := Option.bind_eq_some_iff.mp H
    obtain ⟨t288, A300, H⟩ := H
    replace H : (if t288 = true then (if 0 ≤ t282 then (if t282 < (l0_2.length : Int) then (if ((rd_T71 l0_2 t282).f2) = 0 then ((impl_cloneDialback.f a0_0 a0_1 l0_2).bind fun bt290 => (if t282 < (bt290.2.2.length : Int) then ((some (bt290.2.2.set (t282 : Int).toNat (⟨(rd_T71 bt290.2.2 t282).f0, (rd_T71 bt290.2.2 t282).f1, (rd_T71 bt290.2.2 t282).f2, a2⟩ : S71) : List (S71))).bind fun y296 => (some (bt290.1, bt290.2.1, (y296.set (t282 : Int).toNat (⟨(rd_T71 y296 t282).f0, (rd_T71 y296 t282).f1, 1, (rd_T71 y296 t282).f3⟩ : S71)), 0, 0))) else (none))) else (some ((⟨#[]⟩ : ByteArray), 0, ([] : List (S71)), 0, 10))) else (none)) else (none)) else (some ((⟨#[]⟩ : ByteArray), 0, ([] : List (S71)), 0, 1))) = some (r1, r2, r3, r4, r5) := H
    have A30 := Aside0.mk A300
    clear A300
    by_cases c31 : t288 = true
    ·
     subst c31
     have H1 : (if 0 ≤ t282 then (if t282 < (l0_2.length : Int) then (if ((rd_T71 l0_2 t282).f2) = 0 then ((impl_cloneDialback.f a0_0 a0_1 l0_2).bind fun bt290 => (if t282 < (bt290.2.2.length : Int) then ((some (bt290.2.2.set (t282 : Int).toNat (⟨(rd_T71 bt290.2.2 t282).f0, (rd_T71 bt290.2.2 t282).f1, (rd_T71 bt290.2.2 t282).f2, a2⟩ : S71) : List (S71))).bind fun y296 => (some (bt290.1, bt290.2.1, (y296.set (t282 : Int).toNat (⟨(rd_T71 y296 t282).f0, (rd_T71 y296 t282).f1, 1, (rd_T71 y296 t282).f3⟩ : S71)), 0, 0))) else (none))) else (some ((⟨#[]⟩ : ByteArray), 0, ([] : List (S71)), 0, 10))) else (none)) else (none)) = some (r1, r2, r3, r4, r5) := by rw [if_pos rfl] at H; exact H
     clear H
     have H := H1
     clear H1
     by_cases c32 : 0 ≤ t282
     ·
      rw [if_pos c32] at H
      have c32b0 : decide (0 ≤ t282) = true := decide_eq_true c32
      clear c32
      by_cases c33 : t282 < (l0_2.length : Int)
      ·
       rw [if_pos c33] at H
       have c33b0 : decide (t282 < (l0_2.length : Int)) = true := decide_eq_true c33
       clear c33
       by_cases c34 : ((rd_T71 l0_2 t282).f2) = 0
       ·
        rw [if_pos c34] at H
        have c34b0 : (((rd_T71 l0_2 t282).f2) == 0) = true := beq_iff_eq.mpr c34
        have c34b1 : (((rd_T71 l0_2 t282).f2) != 0) = false := bne_eq_false_iff_eq.mpr c34
        clear c34
        replace H := Option.bind_eq_some_iff.mp H
        obtain ⟨⟨t290, t291, t292⟩, A350, H⟩ := H
        replace H : (if t282 < (t292.length : Int) then ((some (t292.set (t282 : Int).toNat (⟨(rd_T71 t292 t282).f0, (rd_T71 t292 t282).f1, (rd_T71 t292 t282).f2, a2⟩ : S71) : List (S71))).bind fun y296 => (some (t290, t291, (y296.set (t282 : Int).toNat (⟨(rd_T71 y296 t282).f0, (rd_T71 y296 t282).f1, 1, (rd_T71 y296 t282).f3⟩ : S71)), 0, 0))) else (none)) = some (r1, r2, r3, r4, r5) := H
        have A35 := Aside0.mk A350
        clear A350
        by_cases c36 : t282 < (t292.length : Int)
        ·
         rw [if_pos c36] at H
         have c36b0 : decide (t282 < (t292.length : Int)) = true := decide_eq_true c36
         clear c36
         obtain ⟨y296, hy296⟩ : ∃ y_ : List (S71), y_ = (t292.set (t282 : Int).toNat (⟨(rd_T71 t292 t282).f0, (rd_T71 t292 t282).f1, (rd_T71 t292 t282).f2, a2⟩ : S71)) := ⟨_, rfl⟩
         replace H : (some (t290, t291, (y296.set (t282 : Int).toNat (⟨(rd_T71 y296 t282).f0, (rd_T71 y296 t282).f1, 1, (rd_T71 y296 t282).f3⟩ : S71)), 0, 0)) = some (r1, r2, r3, r4, r5) := by first | (rw [hy296]; with_reducible exact H) | (have H2_ := (Option.bind_some _ _).symm.trans H; rw [hy296]; with_reducible exact H2_) | (have H2_ := (Option.bind_some _ _).symm.trans H; with_reducible exact H2_) | with_reducible exact H | (rw [hy296]; exact H) | exact H
         have Ny296 := Aside0.mk hy296
         clear hy296
         obtain ⟨y297, hy297⟩ : ∃ y_ : List (S71), y_ = (y296.set (t282 : Int).toNat (⟨(rd_T71 y296 t282).f0, (rd_T71 y296 t282).f1, 1, (rd_T71 y296 t282).f3⟩ : S71)) := ⟨_, rfl⟩
         replace H : (some (t290, t291, y297, 0, 0)) = some (r1, r2, r3, r4, r5) := by first | (rw [hy297]; with_reducible exact H) | (have H2_ := (Option.bind_some _ _).symm.trans H; rw [hy297]; with_reducible exact H2_) | (have H2_ := (Option.bind_some _ _).symm.trans H; with_reducible exact H2_) | with_reducible exact H | (rw [hy297]; exact H) | exact H
         have Ny297 := Aside0.mk hy297
         clear hy297
         simp only [Option.some.injEq, Prod.mk.injEq] at H
         obtain ⟨rfl, rfl, rfl, rfl, rfl⟩ := H
         go_enter Tryd.func35, Tryd.ntmps35
         go_wp2_with (first | ((with_reducible refine gate_dst (N := 3) rfl ?_); refine box_event ?hg (N := 3) ?hd (cs := #[.string a0_0, .int .i64 a0_1, .slice A0_2 l0_2.length c0_2]) (t := 40) ?hr ?_; (case hd => rfl); (case hg => rfl); (case hr => first | (go_simp; done) | (go_simp; rfl)); intro gb280 hg w39 hbox hb; have n0_ := Aside0.mk (below_step zb1_10 hb); have n1_ := Aside0.mk (hbox); have n2_ := Aside0.mk ((zb2_10 : w.heap.size ≤ gb280)); have n3_ := Aside0.mk ((zb2_10 : w.heap.size ≤ gb280)); clear HB; have HB := n0_; have BK280 := n1_; have GW280 := n2_; have GE280 := n3_; clear n0_ n1_ n2_ n3_; clear hb hbox hg) | ((with_reducible refine gate_dst (N := 6) rfl ?_); refine box_event ?hg (N := 6) ?hd (cs := #[.string (⟨#[]⟩ : ByteArray), .int .i64 0, .slice none 0 0, .int .i64 0, .int .i64 0]) (t := 51) ?hr ?_; (case hd => rfl); (case hg => rfl); (case hr => first | (go_simp; done) | (go_simp; rfl)); intro gb281 hg w40 hbox hb; have n0_ := Aside0.mk (blk_below (g := gb280) (o := .cells #[.string a0_0, .int .i64 a0_1, .slice A0_2 l0_2.length c0_2] 40 (0, 0)) zb6_10 hb); have n1_ := Aside0.mk (below_step zb7_10 hb); have n2_ := Aside0.mk (hbox); have n3_ := Aside0.mk ((zb8_10 : w.heap.size ≤ gb281)); have n4_ := Aside0.mk ((zb8_10 : w.heap.size ≤ gb281)); have n5_ := Aside0.mk ((zb9_10 : gb280 ≠ gb281)); have n6_ := Aside0.mk ((zb10_10 : gb281 ≠ gb280)); clear BK280; clear HB; have BK280 := n0_; have HB := n1_; have BK281 := n2_; have GW281 := n3_; have GE281 := n4_; have NB280_281 := n5_; have NB281_280 := n6_; clear n0_ n1_ n2_ n3_ n4_ n5_ n6_; clear hb hbox hg; have hnb41 := NB280_281.out; have hnc41 := NB281_280.out; have hcz42_0 := bcq_10 BK280.out 0; have hcz42_1 := bcq_10 BK280.out 1; have hcz42_2 := bcq_10 BK280.out 2; have hfz42_0 := blk_frozen BK280.out 0; have hfz42_1 := blk_frozen BK280.out 1; have hfz42_2 := blk_frozen BK280.out 2) | ((with_reducible refine gate_callee (f := 54) rfl ?_); refine goesL_ (some 11) rfl rfl Tryd.func54 (by kernel_rfl) rfl #[.agg #[.string a0_0, .int .i64 a0_1, .slice A0_2 l0_2.length c0_2], .int .i64 a1] rfl zb5_10 ?_; (with_reducible refine (impl_peerAt.calls a0_0 a0_1 _ _ l0_2 a1 t282 _ ?side1 ?side2 A4.out).mono ?_); (case side1 => repeat (first | exact (Kd.C_below HR0_2.out HB.out) | (with_reducible refine Kd.C_alloc ?_ _) | (with_reducible refine Kd.C_drewN ?_ _) | (with_reducible refine Kd.C_drew ?_))); (case side2 => exact HC0_2.out); rintro e w43 ⟨rfl, hb⟩; refine ⟨_, rfl, ?_⟩; have n0_ := Aside0.mk (blk_below (g := gb280) (o := .cells #[.string a0_0, .int .i64 a0_1, .slice A0_2 l0_2.length c0_2] 40 (0, 0)) zb6_10 hb); have n1_ := Aside0.mk (blk_below (g := gb281) (o := .cells #[.string (⟨#[]⟩ : ByteArray), .int .i64 0, .slice none 0 0, .int .i64 0, .int .i64 0] 51 (0, 0)) zb11_10 hb); have n2_ := Aside0.mk (below_step zb12_10 hb); clear BK280; clear BK281; clear HB; have BK280 := n0_; have BK281 := n1_; have HB := n2_; clear n0_ n1_ n2_; (try clear hb); (try clear hb2); (try clear hk); (try clear hi)) | ((with_reducible refine gate_dst (N := 14) rfl ?_); refine Kd.R_lit Kd.string _ 9 ?hg (N := 14) ?hd (xs := ([a2] : List ByteArray)) (inner := [.string a2]) (ok := fun _ => True) (okp := fun _ => True) ?hr ?hp (fun _ hk => hk) trivial (Below.refl _ _) (Nat.le_refl _) (by simp) ?_; (case hd => rfl); (case hg => rfl); (case hr => first | (go_simp; done) | (go_simp; rfl)); (case hp => exact (Reps.one (show Kd.M Kd.string _ _ _ a2 [.string a2] from rfl) (Reps.none _ _))); intro v284 w44 ho45 hb hg_ hnew_; clear hg_ hnew_; (first | rw [← Ny283.out] at ho45 | (simp only [Int.reduceToNat] at ho45; rw [← Ny283.out] at ho45)); have n0_ := Aside0.mk (Kd.R_lower ho45 (below_size zb12_10)); have n1_ := Aside0.mk (blk_below (g := gb280) (o := .cells #[.string a0_0, .int .i64 a0_1, .slice A0_2 l0_2.length c0_2] 40 (0, 0)) zb6_10 hb); have n2_ := Aside0.mk (blk_below (g := gb281) (o := .cells #[.string (⟨#[]⟩ : ByteArray), .int .i64 0, .slice none 0 0, .int .i64 0, .int .i64 0] 51 (0, 0)) zb11_10 hb); have n3_ := Aside0.mk (below_step zb12_10 hb); clear BK280; clear BK281; clear HB; have HO285 := n0_; have BK280 := n1_; have BK281 := n2_; have HB := n3_; clear n0_ n1_ n2_ n3_; clear hb ho45; obtain ⟨Ao46, co46, eo46⟩ := Kd.R_slice HO285.out; subst eo46) | ((with_reducible refine gate_callee (f := 59) rfl ?_); refine goesL_ (some 15) rfl rfl Tryd.func59 (by kernel_rfl) rfl #[.slice Ao46 y283.length co46] rfl zb5_10 ?_; (with_reducible refine (impl_long.calls k _ _ y283 false _ ?side1 ?side2 A5.out).mono ?_); (case side1 => repeat (first | exact (Kd.R_reads' HO285.out).2.2 | (with_reducible refine Kd.C_alloc ?_ _) | (with_reducible refine Kd.C_drewN ?_ _) | (with_reducible refine Kd.C_drew ?_))); (case side2 => exact (Kd.R_reads' HO285.out).2.1); rintro e w' ⟨rfl, ⟨nd, rfl⟩⟩; refine ⟨_, rfl, ?_⟩; (try (rw [drewN_self w44]; generalize hq_ : World.drewN w44 _ = w44; have n0_ : Aside0 (Kd.R Kd.string 9 w44 w.heap.size (fun _ => True) (.slice Ao46 y283.length co46) y283) := ⟨by rw [← hq_]; exact zb13_10⟩; have n1_ : Aside0 (w44.heap[gb280]? = some (.cells #[.string a0_0, .int .i64 a0_1, .slice A0_2 l0_2.length c0_2] 40 (0, 0))) := ⟨by rw [← hq_]; exact zb6_10⟩; have n2_ : Aside0 (w44.heap[gb281]? = some (.cells #[.string (⟨#[]⟩ : ByteArray), .int .i64 0, .slice none 0 0, .int .i64 0, .int .i64 0] 51 (0, 0))) := ⟨by rw [← hq_]; exact zb11_10⟩; have n3_ : Aside0 (Below w.heap.size w w44) := ⟨by rw [← hq_]; exact zb12_10⟩; clear HO285 BK280 BK281 HB hq_; have HO285 := n0_; have BK280 := n1_; have BK281 := n2_; have HB := n3_; clear n0_ n1_ n2_ n3_)); have hcz47_0 := bcq_10 BK280.out 0; have hcz47_1 := bcq_10 BK280.out 1; have hcz47_2 := bcq_10 BK280.out 2; have hfz47_0 := blk_frozen BK280.out 0; have hfz47_1 := blk_frozen BK280.out 1; have hfz47_2 := blk_frozen BK280.out 2) | ((with_reducible refine gate_callee (f := 18) rfl ?_); refine goesL_ (some 19) rfl rfl Tryd.func18 (by kernel_rfl) rfl #[.agg #[.string a0_0, .int .i64 a0_1, .slice A0_2 l0_2.length c0_2]] rfl zb5_10 ?_; (with_reducible refine (impl_DialbackRight.calls k a0_0 a0_1 _ _ l0_2 true _ ?side1 ?side2 A16.out zb15_10).mono ?_); (case side1 => repeat (first | exact (Kd.C_below HR0_2.out HB.out) | (with_reducible refine Kd.C_alloc ?_ _) | (with_reducible refine Kd.C_drewN ?_ _) | (with_reducible refine Kd.C_drew ?_))); (case side2 => exact HC0_2.out); rintro e w48 ⟨rfl, hb⟩; refine ⟨_, rfl, ?_⟩; have n0_ := Aside0.mk (Kd.R_below zb13_10 hb); have n1_ := Aside0.mk (blk_below (g := gb280) (o := .cells #[.string a0_0, .int .i64 a0_1, .slice A0_2 l0_2.length c0_2] 40 (0, 0)) zb6_10 hb); have n2_ := Aside0.mk (blk_below (g := gb281) (o := .cells #[.string (⟨#[]⟩ : ByteArray), .int .i64 0, .slice none 0 0, .int .i64 0, .int .i64 0] 51 (0, 0)) zb11_10 hb); have n3_ := Aside0.mk (below_step zb12_10 hb); clear HO285; clear BK280; clear BK281; clear HB; have HO285 := n0_; have BK280 := n1_; have BK281 := n2_; have HB := n3_; clear n0_ n1_ n2_ n3_; (try clear hb); (try clear hb2); (try clear hk); (try clear hi)) | ((with_reducible refine gate_callee (f := 51) rfl ?_); refine goesL_ (some 29) rfl rfl Tryd.func51 (by kernel_rfl) rfl #[.int .i64 (a2.size : Int), .int .i64 1, .int .i64 64] rfl zb5_10 ?_; (with_reducible refine (impl_in.calls (a2.size : Int) 1 64 true _ A30.out).mono ?_); rintro e w' ⟨rfl, ⟨nd, rfl⟩⟩; refine ⟨_, rfl, ?_⟩; (try (rw [drewN_self w48]; generalize hq_ : World.drewN w48 _ = w48; have n0_ : Aside0 (Kd.R Kd.string 9 w48 w.heap.size (fun _ => True) (.slice Ao46 y283.length co46) y283) := ⟨by rw [← hq_]; exact zb13_10⟩; have n1_ : Aside0 (w48.heap[gb280]? = some (.cells #[.string a0_0, .int .i64 a0_1, .slice A0_2 l0_2.length c0_2] 40 (0, 0))) := ⟨by rw [← hq_]; exact zb6_10⟩; have n2_ : Aside0 (w48.heap[gb281]? = some (.cells #[.string (⟨#[]⟩ : ByteArray), .int .i64 0, .slice none 0 0, .int .i64 0, .int .i64 0] 51 (0, 0))) := ⟨by rw [← hq_]; exact zb11_10⟩; have n3_ : Aside0 (Below w.heap.size w w48) := ⟨by rw [← hq_]; exact zb12_10⟩; clear HO285 BK280 BK281 HB hq_; have HO285 := n0_; have BK280 := n1_; have BK281 := n2_; have HB := n3_; clear n0_ n1_ n2_ n3_)); have hcz49_0 := bcq_10 BK280.out 0; have hcz49_1 := bcq_10 BK280.out 1; have hcz49_2 := bcq_10 BK280.out 2; have hfz49_0 := blk_frozen BK280.out 0; have hfz49_1 := blk_frozen BK280.out 1; have hfz49_2 := blk_frozen BK280.out 2; have p289 : 0 ≤ (t282 : Int) := of_decide_eq_true zb0_10; have q289 : t282 < (l0_2.length : Int) := of_decide_eq_true zb0_10; obtain ⟨ad289, e289, hx289_0, hx289_1, hx289_2, hx289_3⟩ := at_T71 HR0_2.out t282 p289 q289; cases e289; replace hx289_0 := (HB.out.cell (World.block_lt_of_cell? w _ hx289_0)).trans hx289_0; replace hx289_1 := (HB.out.cell (World.block_lt_of_cell? w _ hx289_1)).trans hx289_1; replace hx289_2 := (HB.out.cell (World.block_lt_of_cell? w _ hx289_2)).trans hx289_2; replace hx289_3 := (HB.out.cell (World.block_lt_of_cell? w _ hx289_3)).trans hx289_3; replace p289 := eq_true p289; replace q289 := eq_true q289) | ((with_reducible refine gate_callee (f := 60) rfl ?_); refine goesL_ (some 42) rfl rfl Tryd.func60 (by kernel_rfl) rfl #[.agg #[.string a0_0, .int .i64 a0_1, .slice (some ad289) l0_2.length c0_2]] rfl zb5_10 ?_; (with_reducible refine (impl_cloneDialback.calls a0_0 a0_1 _ _ l0_2 t290 t291 t292 _ ?side1 ?side2 A35.out).mono ?_); (case side1 => repeat (first | exact (Kd.C_below HR0_2.out HB.out) | (with_reducible refine Kd.C_alloc ?_ _) | (with_reducible refine Kd.C_drewN ?_ _) | (with_reducible refine Kd.C_drew ?_))); (case side2 => exact HC0_2.out); rintro e w50 ⟨v293, rfl, ho0, hb⟩; refine ⟨_, rfl, ?_⟩; have n0_ := Aside0.mk (Kd.R_below zb13_10 hb); have n1_ := Aside0.mk (Kd.R_lower ho0 (below_size zb12_10)); have n2_ := Aside0.mk (blk_below (g := gb280) (o := .cells #[.string a0_0, .int .i64 a0_1, .slice (some ad289) l0_2.length c0_2] 40 (0, 0)) zb6_10 hb); have n3_ := Aside0.mk (blk_below (g := gb281) (o := .cells #[.string (⟨#[]⟩ : ByteArray), .int .i64 0, .slice none 0 0, .int .i64 0, .int .i64 0] 51 (0, 0)) zb11_10 hb); have n4_ := Aside0.mk (below_step zb12_10 hb); clear HO285; clear BK280; clear BK281; clear HB; have HO285 := n0_; have HO294 := n1_; have BK280 := n2_; have BK281 := n3_; have HB := n4_; clear n0_ n1_ n2_ n3_ n4_; (try clear hb); (try clear hb2); (try clear hk); (try clear hi); (try clear ho0)) | ((with_reducible refine gate_dst (N := 8) rfl ?_); refine box_event ?hg (N := 8) ?hd (cs := #[.string (⟨#[]⟩ : ByteArray), .int .i64 0, .slice none 0 0]) (t := 40) ?hr ?_; (case hd => rfl); (case hg => rfl); (case hr => first | (go_simp; done) | (go_simp; rfl)); intro gb295 hg w51 hbox hb; have n0_ := Aside0.mk (Kd.R_below zb13_10 hb); have n1_ := Aside0.mk (Kd.R_below zb16_10 hb); have n2_ := Aside0.mk (blk_below (g := gb280) (o := .cells #[.string a0_0, .int .i64 a0_1, .slice (some ad289) l0_2.length c0_2] 40 (0, 0)) zb6_10 hb); have n3_ := Aside0.mk (blk_below (g := gb281) (o := .cells #[.string (⟨#[]⟩ : ByteArray), .int .i64 0, .slice none 0 0, .int .i64 0, .int .i64 0] 51 (0, 0)) zb11_10 hb); have n4_ := Aside0.mk (below_step zb12_10 hb); have n5_ := Aside0.mk (hbox); have n6_ := Aside0.mk ((by rw [hg]; exact (below_size zb12_10) : w.heap.size ≤ gb295)); have n7_ := Aside0.mk ((by rw [hg]; exact (below_size zb12_10) : w.heap.size ≤ gb295)); have n8_ := Aside0.mk ((by rw [hg]; exact Nat.ne_of_lt (blk_lt (g := gb280) (o := .cells #[.string a0_0, .int .i64 a0_1, .slice (some ad289) l0_2.length c0_2] 40 (0, 0)) zb6_10) : gb280 ≠ gb295)); have n9_ := Aside0.mk ((by rw [hg]; exact Nat.ne_of_gt (blk_lt (g := gb280) (o := .cells #[.string a0_0, .int .i64 a0_1, .slice (some ad289) l0_2.length c0_2] 40 (0, 0)) zb6_10) : gb295 ≠ gb280)); have n10_ := Aside0.mk ((by rw [hg]; exact Nat.ne_of_lt (blk_lt (g := gb281) (o := .cells #[.string (⟨#[]⟩ : ByteArray), .int .i64 0, .slice none 0 0, .int .i64 0, .int .i64 0] 51 (0, 0)) zb11_10) : gb281 ≠ gb295)); have n11_ := Aside0.mk ((by rw [hg]; exact Nat.ne_of_gt (blk_lt (g := gb281) (o := .cells #[.string (⟨#[]⟩ : ByteArray), .int .i64 0, .slice none 0 0, .int .i64 0, .int .i64 0] 51 (0, 0)) zb11_10) : gb295 ≠ gb281)); clear HO285; clear HO294; clear BK280; clear BK281; clear HB; have HO285 := n0_; have HO294 := n1_; have BK280 := n2_; have BK281 := n3_; have HB := n4_; have BK295 := n5_; have GW295 := n6_; have GE295 := n7_; have NB280_295 := n8_; have NB295_280 := n9_; have NB281_295 := n10_; have NB295_281 := n11_; clear n0_ n1_ n2_ n3_ n4_ n5_ n6_ n7_ n8_ n9_ n10_ n11_; clear hb hbox hg; have hnb52 := NB295_280.out; have hnc52 := NB280_295.out; have hnb53 := NB295_281.out; have hnc53 := NB281_295.out; have hcz54_0 := bcq_10 BK295.out 0; have hcz54_1 := bcq_10 BK295.out 1; have hcz54_2 := bcq_10 BK295.out 2; have hfz54_0 := blk_frozen BK295.out 0; have hfz54_1 := blk_frozen BK295.out 1; have hfz54_2 := blk_frozen BK295.out 2; obtain ⟨Ao55, co55, eo55⟩ := Kd.R_slice HO294.out; subst eo55) | ((with_reducible refine gate_store (t := 40) (p := 8) rfl ?_); refine store_event (t := 40) (p := 8) (v := ?vo_w56) (w1 := (((w51.setCell ⟨gb295, 0, none⟩ (.string t290)).setCell ⟨gb295, 1, none⟩ (.int .i64 t291)).setCell ⟨gb295, 2, none⟩ (.slice Ao55 t292.length co55))) ?hg ?ho ?hn ?hr ?_; (case ho => rfl); (case hg => rfl); (case hn => rfl); (case hr => first | (go_simp; done) | (go_simp; rfl)); intro w56 hw; have n0_ : Aside0 (Kd.R Kd.string 9 w56 w.heap.size (fun _ => True) (.slice Ao46 y283.length co46) y283) := ⟨(by rw [hw]; exact (by (with_reducible repeat (first | apply Kd.R_alloc | apply Kd.R_drewN | apply Kd.R_drew)); exact Kd.R_mono (Kd.R_far (p := ⟨gb295, 2, none⟩) (Kd.R_far (p := ⟨gb295, 1, none⟩) (Kd.R_far (p := ⟨gb295, 0, none⟩) (Kd.R_types HO285.out BK295.out (by decide)) (fun _ hk => hk.2) (.string t290)) (fun _ hk => hk.2) (.int .i64 t291)) (fun _ hk => hk.2) (.slice Ao55 t292.length co55)) (fun _ hk => trivial)))⟩; have n1_ : Aside0 (Kd.R k71 71 w56 w.heap.size (fun _ => True) (.slice Ao55 t292.length co55) t292) := ⟨(by rw [hw]; exact (by (with_reducible repeat (first | apply Kd.R_alloc | apply Kd.R_drewN | apply Kd.R_drew)); exact Kd.R_mono (Kd.R_far (p := ⟨gb295, 2, none⟩) (Kd.R_far (p := ⟨gb295, 1, none⟩) (Kd.R_far (p := ⟨gb295, 0, none⟩) (Kd.R_types HO294.out BK295.out (by decide)) (fun _ hk => hk.2) (.string t290)) (fun _ hk => hk.2) (.int .i64 t291)) (fun _ hk => hk.2) (.slice Ao55 t292.length co55)) (fun _ hk => trivial)))⟩; have n2_ : Aside0 (w56.heap[gb280]? = some (.cells #[.string a0_0, .int .i64 a0_1, .slice (some ad289) l0_2.length c0_2] 40 (0, 0))) := ⟨(by rw [hw]; exact (by (with_reducible repeat (first | refine blk_drewN ?_ _ | refine blk_drew ?_ | refine blk_alloc ?_ _)); refine blk_far ?_ NB280_295.out _; (with_reducible repeat (first | refine blk_drewN ?_ _ | refine blk_drew ?_ | refine blk_alloc ?_ _)); refine blk_far ?_ NB280_295.out _; (with_reducible repeat (first | refine blk_drewN ?_ _ | refine blk_drew ?_ | refine blk_alloc ?_ _)); refine blk_far ?_ NB280_295.out _; (with_reducible repeat (first | refine blk_drewN ?_ _ | refine blk_drew ?_ | refine blk_alloc ?_ _)); exact BK280.out))⟩; have n3_ : Aside0 (w56.heap[gb281]? = some (.cells #[.string (⟨#[]⟩ : ByteArray), .int .i64 0, .slice none 0 0, .int .i64 0, .int .i64 0] 51 (0, 0))) := ⟨(by rw [hw]; exact (by (with_reducible repeat (first | refine blk_drewN ?_ _ | refine blk_drew ?_ | refine blk_alloc ?_ _)); refine blk_far ?_ NB281_295.out _; (with_reducible repeat (first | refine blk_drewN ?_ _ | refine blk_drew ?_ | refine blk_alloc ?_ _)); refine blk_far ?_ NB281_295.out _; (with_reducible repeat (first | refine blk_drewN ?_ _ | refine blk_drew ?_ | refine blk_alloc ?_ _)); refine blk_far ?_ NB281_295.out _; (with_reducible repeat (first | refine blk_drewN ?_ _ | refine blk_drew ?_ | refine blk_alloc ?_ _)); exact BK281.out))⟩; have n4_ : Aside0 (w56.heap[gb295]? = some (.cells #[.string t290, .int .i64 t291, .slice Ao55 t292.length co55] 40 (0, 0))) := ⟨(by rw [hw]; exact (by (with_reducible repeat (first | refine blk_drewN ?_ _ | refine blk_drew ?_ | refine blk_alloc ?_ _)); refine blk_put (cs := #[.string t290, .int .i64 t291, .slice none 0 0]) ?_ 2 _ rfl; (with_reducible repeat (first | refine blk_drewN ?_ _ | refine blk_drew ?_ | refine blk_alloc ?_ _)); refine blk_put (cs := #[.string t290, .int .i64 0, .slice none 0 0]) ?_ 1 _ rfl; (with_reducible repeat (first | refine blk_drewN ?_ _ | refine blk_drew ?_ | refine blk_alloc ?_ _)); refine blk_put (cs := #[.string (⟨#[]⟩ : ByteArray), .int .i64 0, .slice none 0 0]) ?_ 0 _ rfl; (with_reducible repeat (first | refine blk_drewN ?_ _ | refine blk_drew ?_ | refine blk_alloc ?_ _)); exact BK295.out))⟩; have n5_ : Aside0 (Below w.heap.size w w56) := ⟨(by rw [hw]; exact (by repeat (first | (with_reducible first | exact HB.out | apply below_alloc | apply pw_below_drewN | apply below_drew1 | refine below_set ?_ GE280.out | refine below_set ?_ GE281.out | refine below_set ?_ GE295.out) | exact HB.out)))⟩; clear hw; clear HO285; clear HO294; clear BK280; clear BK281; clear BK295; clear HB; have HO285 := n0_; have HO294 := n1_; have BK280 := n2_; have BK281 := n3_; have BK295 := n4_; have HB := n5_; clear n0_ n1_ n2_ n3_ n4_ n5_; have hcz57_0 := bcq_10 BK295.out 0; have hcz57_1 := bcq_10 BK295.out 1; have hcz57_2 := bcq_10 BK295.out 2; have hfz57_0 := blk_frozen BK295.out 0; have hfz57_1 := blk_frozen BK295.out 1; have hfz57_2 := blk_frozen BK295.out 2; have p37 : 0 ≤ (t282 : Int) := of_decide_eq_true zb0_10; have q37 : (t282 : Int) < ((t292.length : Int) : Int) := of_decide_eq_true zb0_10; obtain ⟨go37, co37, eo37, gb37, gl37, cl37, HG37⟩ := Kd.R_form HO294.out (by omega); (first | cases eo37 | (injection eo37 with ea_ en_ ec_; (first | subst ea_ | (injection ea_ with ea_; subst ea_)); subst ec_; clear en_)); have GB37 := Aside0.mk gb37; have GG37 := Aside0.mk HG37; clear gb37 gl37 HG37; obtain ⟨ce37, hcl37, hM37, hcc37, hfr37⟩ := Kd.R_elem HO294.out z71 (t282 : Int) p37 q37; obtain rfl := k71_openM hM37; have hx37_0 : w56.cell? ⟨go37, (t282 : Int).toNat * 4, none⟩ = some (.string ((rd_T71 t292 t282).f0)) := hcc37 0 _ rfl; have hx37_1 : w56.cell? ⟨go37, (t282 : Int).toNat * 4 + 1, none⟩ = some (.int .i64 ((rd_T71 t292 t282).f1)) := hcc37 1 _ rfl; have hx37_2 : w56.cell? ⟨go37, (t282 : Int).toNat * 4 + 2, none⟩ = some (.int .i64 ((rd_T71 t292 t282).f2)) := hcc37 2 _ rfl; have hx37_3 : w56.cell? ⟨go37, (t282 : Int).toNat * 4 + 3, none⟩ = some (.string ((rd_T71 t292 t282).f3)) := hcc37 3 _ rfl; have hf37_0 : w56.frozen? ⟨go37, (t282 : Int).toNat * 4, none⟩ = false := hfr37 0; have hf37_1 : w56.frozen? ⟨go37, (t282 : Int).toNat * 4 + 1, none⟩ = false := hfr37 1; have hf37_2 : w56.frozen? ⟨go37, (t282 : Int).toNat * 4 + 2, none⟩ = false := hfr37 2; have hf37_3 : w56.frozen? ⟨go37, (t282 : Int).toNat * 4 + 3, none⟩ = false := hfr37 3; clear hcl37 hcc37 hfr37 hM37; replace p37 := eq_true p37; replace q37 := eq_true q37; have HX58 := Aside0.mk (show Kd.R k71 71 w56 w.heap.size (fun _ => True) (.slice (some ⟨go37, 0, none⟩) t292.length co55) t292 from zb16_10); obtain ⟨ce58, hcl58, hM58, hcc58, hfr58⟩ := Kd.R_elem HX58.out z71 (t282 : Int) (of_decide_eq_true zb0_10) (by have h_ : (t282 : Int) < ((t292.length : Int) : Int) := of_decide_eq_true zb0_10; first | exact h_ | (have e_ := (Kd.R_reads' HO294.out).1; omega) | simpa using h_); obtain rfl := k71_openM hM58; have HP58 := Kd.R_seg HX58.out (t282 : Int) (of_decide_eq_true zb0_10) (by have h_ : (t282 : Int) < ((t292.length : Int) : Int) := of_decide_eq_true zb0_10; first | exact h_ | (have e_ := (Kd.R_reads' HO294.out).1; omega) | simpa using h_) (seg := [.string a2]) (j := 3) hcl58 hcc58 (show 4 ≤ 4 from by decide) (x' := (⟨(rd_T71 t292 t282).f0, (rd_T71 t292 t282).f1, (rd_T71 t292 t282).f2, a2⟩ : S71)) (k71_mkM _ _ _ (⟨(rd_T71 t292 t282).f0, (rd_T71 t292 t282).f1, (rd_T71 t292 t282).f2, a2⟩ : S71) ) (fun _ hk => hk); have hx58_3 := hcc58 3 _ rfl; (try simp only [show (k71).sz = 4 from rfl, Nat.mul_one, Nat.add_zero] at hx58_3); have hf58_3 := hfr58 3; (try simp only [show (k71).sz = 4 from rfl, Nat.mul_one, Nat.add_zero] at hf58_3); clear hcl58 hcc58 hfr58 hM58))
         have hne1 : gb295 ≠ go37 := by intro he; subst he; have h1 := BK295.out; rw [GG37.out] at h1; simp at h1
         have hne2 : go37 ≠ gb295 := Ne.symm hne1
         go_region
         ·
          obtain ⟨w59, hw⟩ : ∃ x_, x_ = (w56.setCell ⟨go37, (t282 : Int).toNat * 4 + 3, none⟩ (.string a2)) := ⟨_, rfl⟩
          try rw [Int.toNat_natCast] at hw
          rw [← hw]
          have hg : w56.grownBy w59 (some go37) := (by rw [hw]; exact HP58.2)
          have hp_ : Kd.R k71 71 w59 w.heap.size (fun _ => True) (.slice (some ⟨go37, 0, none⟩) t292.length co55) y296 := (by rw [hw, Ny296.out]; exact HP58.1)
          clear HP58
          have n0_ := Aside0.mk (blk_grown (g := gb280) (o := .cells #[.string a0_0, .int .i64 a0_1, .slice (some ad289) l0_2.length c0_2] 40 (0, 0)) zb6_10 hg (Kd.R_ne HO294.out BK280.out (by decide)))
          have n1_ := Aside0.mk (blk_grown (g := gb281) (o := .cells #[.string (⟨#[]⟩ : ByteArray), .int .i64 0, .slice none 0 0, .int .i64 0, .int .i64 0] 51 (0, 0)) zb11_10 hg (Kd.R_ne HO294.out BK281.out (by decide)))
          have n2_ := Aside0.mk (Kd.R_over' (v := (.slice (some ⟨go37, 0, none⟩) t292.length co55)) zb13_10 (Kd.R_typed HO294.out) (by decide) hg)
          have n3_ := Aside0.mk (hp_)
          have n4_ := Aside0.mk (blk_grown (g := gb295) (o := .cells #[.string t290, .int .i64 t291, .slice (some ⟨go37, 0, none⟩) t292.length co55] 40 (0, 0)) zb17_10 hg (Kd.R_ne HO294.out BK295.out (by decide)))
          have n5_ := Aside0.mk ((by rw [hw]; exact below_set (HB.out) GB37.out : Below w.heap.size w w59))
          clear BK280
          clear BK281
          clear HO285
          clear HO294
          clear BK295
          clear HB
          have BK280 := n0_
          have BK281 := n1_
          have HO285 := n2_
          have HO294 := n3_
          have BK295 := n4_
          have HB := n5_
          clear n0_ n1_ n2_ n3_ n4_ n5_
          clear hg hw hp_
          have p38 : 0 ≤ (t282 : Int) := of_decide_eq_true zb0_10
          have q38 : (t282 : Int) < ((t292.length : Int) : Int) := of_decide_eq_true zb0_10
          obtain ⟨ce38, hcl38, hM38, hcc38, hfr38⟩ := Kd.R_elem HO294.out z71 (t282 : Int) p38 q38
          obtain rfl := k71_openM hM38
          have hx38_0 : w59.cell? ⟨go37, (t282 : Int).toNat * 4, none⟩ = some (.string ((rd_T71 y296 t282).f0)) := hcc38 0 _ rfl
          have hx38_1 : w59.cell? ⟨go37, (t282 : Int).toNat * 4 + 1, none⟩ = some (.int .i64 ((rd_T71 y296 t282).f1)) := hcc38 1 _ rfl
          have hx38_2 : w59.cell? ⟨go37, (t282 : Int).toNat * 4 + 2, none⟩ = some (.int .i64 ((rd_T71 y296 t282).f2)) := hcc38 2 _ rfl
          have hx38_3 : w59.cell? ⟨go37, (t282 : Int).toNat * 4 + 3, none⟩ = some (.string ((rd_T71 y296 t282).f3)) := hcc38 3 _ rfl
          have hf38_0 : w59.frozen? ⟨go37, (t282 : Int).toNat * 4, none⟩ = false := hfr38 0
          have hf38_1 : w59.frozen? ⟨go37, (t282 : Int).toNat * 4 + 1, none⟩ = false := hfr38 1
          have hf38_2 : w59.frozen? ⟨go37, (t282 : Int).toNat * 4 + 2, none⟩ = false := hfr38 2
          have hf38_3 : w59.frozen? ⟨go37, (t282 : Int).toNat * 4 + 3, none⟩ = false := hfr38 3
          clear hcl38 hcc38 hfr38 hM38
          replace p38 := eq_true p38
          replace q38 := eq_true q38
          have HX60 := Aside0.mk (show Kd.R k71 71 w59 w.heap.size (fun _ => True) (.slice (some ⟨go37, 0, none⟩) t292.length co55) y296 from zb16_10)
          obtain ⟨ce60, hcl60, hM60, hcc60, hfr60⟩ := Kd.R_elem HX60.out z71 (t282 : Int) (of_decide_eq_true zb0_10) (by have h_ : (t282 : Int) < ((t292.length : Int) : Int) := of_decide_eq_true zb0_10; first | exact h_ | (have e_ := (Kd.R_reads' HO294.out).1; omega) | simpa using h_)
          obtain rfl := k71_openM hM60
          have HP60 := Kd.R_seg HX60.out (t282 : Int) (of_decide_eq_true zb0_10) (by have h_ : (t282 : Int) < ((t292.length : Int) : Int) := of_decide_eq_true zb0_10; first | exact h_ | (have e_ := (Kd.R_reads' HO294.out).1; omega) | simpa using h_) (seg := [.int .i64 1]) (j := 2) hcl60 hcc60 (show 3 ≤ 4 from by decide) (x' := (⟨(rd_T71 y296 t282).f0, (rd_T71 y296 t282).f1, 1, (rd_T71 y296 t282).f3⟩ : S71)) (k71_mkM _ _ _ (⟨(rd_T71 y296 t282).f0, (rd_T71 y296 t282).f1, 1, (rd_T71 y296 t282).f3⟩ : S71) ) (fun _ hk => hk)
          have hx60_2 := hcc60 2 _ rfl
          (try simp only [show (k71).sz = 4 from rfl, Nat.mul_one, Nat.add_zero] at hx60_2)
          have hf60_2 := hfr60 2
          (try simp only [show (k71).sz = 4 from rfl, Nat.mul_one, Nat.add_zero] at hf60_2)
          clear hcl60 hcc60 hfr60 hM60
          obtain ⟨w61, hw⟩ : ∃ x_, x_ = (w59.setCell ⟨go37, (t282 : Int).toNat * 4 + 2, none⟩ (.int .i64 1)) := ⟨_, rfl⟩
          try rw [Int.toNat_natCast] at hw
          rw [← hw]
          have hg : w59.grownBy w61 (some go37) := (by rw [hw]; exact HP60.2)
          have hp_ : Kd.R k71 71 w61 w.heap.size (fun _ => True) (.slice (some ⟨go37, 0, none⟩) t292.length co55) y297 := (by rw [hw, Ny297.out]; exact HP60.1)
          clear HP60
          have n0_ := Aside0.mk (blk_grown (g := gb280) (o := .cells #[.string a0_0, .int .i64 a0_1, .slice (some ad289) l0_2.length c0_2] 40 (0, 0)) zb6_10 hg (Kd.R_ne HO294.out BK280.out (by decide)))
          have n1_ := Aside0.mk (blk_grown (g := gb281) (o := .cells #[.string (⟨#[]⟩ : ByteArray), .int .i64 0, .slice none 0 0, .int .i64 0, .int .i64 0] 51 (0, 0)) zb11_10 hg (Kd.R_ne HO294.out BK281.out (by decide)))
          have n2_ := Aside0.mk (Kd.R_over' (v := (.slice (some ⟨go37, 0, none⟩) t292.length co55)) zb13_10 (Kd.R_typed HO294.out) (by decide) hg)
          have n3_ := Aside0.mk (hp_)
          have n4_ := Aside0.mk (blk_grown (g := gb295) (o := .cells #[.string t290, .int .i64 t291, .slice (some ⟨go37, 0, none⟩) t292.length co55] 40 (0, 0)) zb17_10 hg (Kd.R_ne HO294.out BK295.out (by decide)))
          have n5_ := Aside0.mk ((by rw [hw]; exact below_set (HB.out) GB37.out : Below w.heap.size w w61))
          clear BK280
          clear BK281
          clear HO285
          clear HO294
          clear BK295
          clear HB
          have BK280 := n0_
          have BK281 := n1_
          have HO285 := n2_
          have HO294 := n3_
          have BK295 := n4_
          have HB := n5_
          clear n0_ n1_ n2_ n3_ n4_ n5_
          clear hg hw hp_
          have hcz62_0 := bcq_10 BK295.out 0
          have hcz62_1 := bcq_10 BK295.out 1
          have hcz62_2 := bcq_10 BK295.out 2
          have hfz62_0 := blk_frozen BK295.out 0
          have hfz62_1 := blk_frozen BK295.out 1
          have hfz62_2 := blk_frozen BK295.out 2
          have hcz63_0 := bcq_10 BK281.out 0
          have hcz63_1 := bcq_10 BK281.out 1
          have hcz63_2 := bcq_10 BK281.out 2
          have hcz63_3 := bcq_10 BK281.out 3
          have hcz63_4 := bcq_10 BK281.out 4
          have hfz63_0 := blk_frozen BK281.out 0
          have hfz63_1 := blk_frozen BK281.out 1
          have hfz63_2 := blk_frozen BK281.out 2
          have hfz63_3 := blk_frozen BK281.out 3
          have hfz63_4 := blk_frozen BK281.out 4
          go_wp2
          refine bodyPost_ret (results_cell_row rfl _ _ gb281 51 #[.string t290, .int .i64 t291, .slice (some ⟨go37, 0, none⟩) t292.length co55, .int .i64 0, .int .i64 0] (0, 0) _ rfl zb18_10 Tryd.underlying51 rfl (by kernel_rfl)) rfl ?_
          exact ⟨_, by first | rfl | (simp [errW_none, errW_some] <;> rfl) | (simp [*, errW_none, errW_some] <;> rfl), by (with_reducible repeat (first | apply Kd.R_alloc | apply Kd.R_drewN | apply Kd.R_drew)); exact Kd.R_mono (Kd.R_far (p := ⟨gb281, 4, none⟩) (Kd.R_far (p := ⟨gb281, 3, none⟩) (Kd.R_far (p := ⟨gb281, 2, none⟩) (Kd.R_far (p := ⟨gb281, 1, none⟩) (Kd.R_far (p := ⟨gb281, 0, none⟩) (Kd.R_types HO294.out BK281.out (by decide)) (fun _ hk => hk.2) (.string t290)) (fun _ hk => hk.2) (.int .i64 t291)) (fun _ hk => hk.2) (.slice (some ⟨go37, 0, none⟩) t292.length co55)) (fun _ hk => hk.2) (.int .i64 0)) (fun _ hk => hk.2) (.int .i64 0)) (fun _ hk => trivial), by repeat (first | (with_reducible first | exact HB.out | apply below_alloc | apply pw_below_drewN | apply below_drew1 | refine below_set ?_ GE280.out | refine below_set ?_ GE281.out | refine below_set ?_ GE295.out) | exact HB.out)⟩
         ·
          obtain ⟨w59, hw⟩ : ∃ x_, x_ = (w56.setCell ⟨go37, (t282 : Int).toNat * 4 + 3, none⟩ (.string a2)) := ⟨_, rfl⟩
          try rw [Int.toNat_natCast] at hw
          rw [← hw]
          have hg : w56.grownBy w59 (some go37) := (by rw [hw]; exact HP58.2)
          have hp_ : Kd.R k71 71 w59 w.heap.size (fun _ => True) (.slice (some ⟨go37, 0, none⟩) t292.length co55) y296 := (by rw [hw, Ny296.out]; exact HP58.1)
          clear HP58
          have n0_ := Aside0.mk (blk_grown (g := gb280) (o := .cells #[.string a0_0, .int .i64 a0_1, .slice (some ad289) l0_2.length c0_2] 40 (0, 0)) zb6_10 hg (Kd.R_ne HO294.out BK280.out (by decide)))
          have n1_ := Aside0.mk (blk_grown (g := gb281) (o := .cells #[.string (⟨#[]⟩ : ByteArray), .int .i64 0, .slice none 0 0, .int .i64 0, .int .i64 0] 51 (0, 0)) zb11_10 hg (Kd.R_ne HO294.out BK281.out (by decide)))
          have n2_ := Aside0.mk (Kd.R_over' (v := (.slice (some ⟨go37, 0, none⟩) t292.length co55)) zb13_10 (Kd.R_typed HO294.out) (by decide) hg)
          have n3_ := Aside0.mk (hp_)
          have n4_ := Aside0.mk (blk_grown (g := gb295) (o := .cells #[.string t290, .int .i64 t291, .slice (some ⟨go37, 0, none⟩) t292.length co55] 40 (0, 0)) zb17_10 hg (Kd.R_ne HO294.out BK295.out (by decide)))
          have n5_ := Aside0.mk ((by rw [hw]; exact below_set (HB.out) GB37.out : Below w.heap.size w w59))
          clear BK280
          clear BK281
          clear HO285
          clear HO294
          clear BK295
          clear HB
          have BK280 := n0_
          have BK281 := n1_
          have HO285 := n2_
          have HO294 := n3_
          have BK295 := n4_
          have HB := n5_
          clear n0_ n1_ n2_ n3_ n4_ n5_
          clear hg hw hp_
          have p38 : 0 ≤ (t282 : Int) := of_decide_eq_true zb0_10
          have q38 : (t282 : Int) < ((t292.length : Int) : Int) := of_decide_eq_true zb0_10
          obtain ⟨ce38, hcl38, hM38, hcc38, hfr38⟩ := Kd.R_elem HO294.out z71 (t282 : Int) p38 q38
          obtain rfl := k71_openM hM38
          have hx38_0 : w59.cell? ⟨go37, (t282 : Int).toNat * 4, none⟩ = some (.string ((rd_T71 y296 t282).f0)) := hcc38 0 _ rfl
          have hx38_1 : w59.cell? ⟨go37, (t282 : Int).toNat * 4 + 1, none⟩ = some (.int .i64 ((rd_T71 y296 t282).f1)) := hcc38 1 _ rfl
          have hx38_2 : w59.cell? ⟨go37, (t282 : Int).toNat * 4 + 2, none⟩ = some (.int .i64 ((rd_T71 y296 t282).f2)) := hcc38 2 _ rfl
          have hx38_3 : w59.cell? ⟨go37, (t282 : Int).toNat * 4 + 3, none⟩ = some (.string ((rd_T71 y296 t282).f3)) := hcc38 3 _ rfl
          have hf38_0 : w59.frozen? ⟨go37, (t282 : Int).toNat * 4, none⟩ = false := hfr38 0
          have hf38_1 : w59.frozen? ⟨go37, (t282 : Int).toNat * 4 + 1, none⟩ = false := hfr38 1
          have hf38_2 : w59.frozen? ⟨go37, (t282 : Int).toNat * 4 + 2, none⟩ = false := hfr38 2
          have hf38_3 : w59.frozen? ⟨go37, (t282 : Int).toNat * 4 + 3, none⟩ = false := hfr38 3
          clear hcl38 hcc38 hfr38 hM38
          replace p38 := eq_true p38
          replace q38 := eq_true q38
          have HX60 := Aside0.mk (show Kd.R k71 71 w59 w.heap.size (fun _ => True) (.slice (some ⟨go37, 0, none⟩) t292.length co55) y296 from zb16_10)
          obtain ⟨ce60, hcl60, hM60, hcc60, hfr60⟩ := Kd.R_elem HX60.out z71 (t282 : Int) (of_decide_eq_true zb0_10) (by have h_ : (t282 : Int) < ((t292.length : Int) : Int) := of_decide_eq_true zb0_10; first | exact h_ | (have e_ := (Kd.R_reads' HO294.out).1; omega) | simpa using h_)
          obtain rfl := k71_openM hM60
          have HP60 := Kd.R_seg HX60.out (t282 : Int) (of_decide_eq_true zb0_10) (by have h_ : (t282 : Int) < ((t292.length : Int) : Int) := of_decide_eq_true zb0_10; first | exact h_ | (have e_ := (Kd.R_reads' HO294.out).1; omega) | simpa using h_) (seg := [.int .i64 1]) (j := 2) hcl60 hcc60 (show 3 ≤ 4 from by decide) (x' := (⟨(rd_T71 y296 t282).f0, (rd_T71 y296 t282).f1, 1, (rd_T71 y296 t282).f3⟩ : S71)) (k71_mkM _ _ _ (⟨(rd_T71 y296 t282).f0, (rd_T71 y296 t282).f1, 1, (rd_T71 y296 t282).f3⟩ : S71) ) (fun _ hk => hk)
          have hx60_2 := hcc60 2 _ rfl
          (try simp only [show (k71).sz = 4 from rfl, Nat.mul_one, Nat.add_zero] at hx60_2)
          have hf60_2 := hfr60 2
          (try simp only [show (k71).sz = 4 from rfl, Nat.mul_one, Nat.add_zero] at hf60_2)
          clear hcl60 hcc60 hfr60 hM60
          obtain ⟨w61, hw⟩ : ∃ x_, x_ = (w59.setCell ⟨go37, (t282 : Int).toNat * 4 + 2, none⟩ (.int .i64 1)) := ⟨_, rfl⟩
          try rw [Int.toNat_natCast] at hw
          rw [← hw]
          have hg : w59.grownBy w61 (some go37) := (by rw [hw]; exact HP60.2)
          have hp_ : Kd.R k71 71 w61 w.heap.size (fun _ => True) (.slice (some ⟨go37, 0, none⟩) t292.length co55) y297 := (by rw [hw, Ny297.out]; exact HP60.1)
          clear HP60
          have n0_ := Aside0.mk (blk_grown (g := gb280) (o := .cells #[.string a0_0, .int .i64 a0_1, .slice (some ad289) l0_2.length c0_2] 40 (0, 0)) zb6_10 hg (Kd.R_ne HO294.out BK280.out (by decide)))
          have n1_ := Aside0.mk (blk_grown (g := gb281) (o := .cells #[.string (⟨#[]⟩ : ByteArray), .int .i64 0, .slice none 0 0, .int .i64 0, .int .i64 0] 51 (0, 0)) zb11_10 hg (Kd.R_ne HO294.out BK281.out (by decide)))
          have n2_ := Aside0.mk (Kd.R_over' (v := (.slice (some ⟨go37, 0, none⟩) t292.length co55)) zb13_10 (Kd.R_typed HO294.out) (by decide) hg)
          have n3_ := Aside0.mk (hp_)
          have n4_ := Aside0.mk (blk_grown (g := gb295) (o := .cells #[.string t290, .int .i64 t291, .slice (some ⟨go37, 0, none⟩) t292.length co55] 40 (0, 0)) zb17_10 hg (Kd.R_ne HO294.out BK295.out (by decide)))
          have n5_ := Aside0.mk ((by rw [hw]; exact below_set (HB.out) GB37.out : Below w.heap.size w w61))
          clear BK280
          clear BK281
          clear HO285
          clear HO294
          clear BK295
          clear HB
          have BK280 := n0_
          have BK281 := n1_
          have HO285 := n2_
          have HO294 := n3_
          have BK295 := n4_
          have HB := n5_
          clear n0_ n1_ n2_ n3_ n4_ n5_
          clear hg hw hp_
          have hcz62_0 := bcq_10 BK295.out 0
          have hcz62_1 := bcq_10 BK295.out 1
          have hcz62_2 := bcq_10 BK295.out 2
          have hfz62_0 := blk_frozen BK295.out 0
          have hfz62_1 := blk_frozen BK295.out 1
          have hfz62_2 := blk_frozen BK295.out 2
          have hcz63_0 := bcq_10 BK281.out 0
          have hcz63_1 := bcq_10 BK281.out 1
          have hcz63_2 := bcq_10 BK281.out 2
          have hcz63_3 := bcq_10 BK281.out 3
          have hcz63_4 := bcq_10 BK281.out 4
          have hfz63_0 := blk_frozen BK281.out 0
          have hfz63_1 := blk_frozen BK281.out 1
          have hfz63_2 := blk_frozen BK281.out 2
          have hfz63_3 := blk_frozen BK281.out 3
          have hfz63_4 := blk_frozen BK281.out 4
          go_wp2
          refine bodyPost_ret (results_cell_row rfl _ _ gb281 51 #[.string t290, .int .i64 t291, .slice (some ⟨go37, 0, none⟩) t292.length co55, .int .i64 0, .int .i64 0] (0, 0) _ rfl zb18_10 Tryd.underlying51 rfl (by kernel_rfl)) rfl ?_
          exact ⟨_, by first | rfl | (simp [errW_none, errW_some] <;> rfl) | (simp [*, errW_none, errW_some] <;> rfl), by (with_reducible repeat (first | apply Kd.R_alloc | apply Kd.R_drewN | apply Kd.R_drew)); exact Kd.R_mono (Kd.R_far (p := ⟨gb281, 4, none⟩) (Kd.R_far (p := ⟨gb281, 3, none⟩) (Kd.R_far (p := ⟨gb281, 2, none⟩) (Kd.R_far (p := ⟨gb281, 1, none⟩) (Kd.R_far (p := ⟨gb281, 0, none⟩) (Kd.R_types HO294.out BK281.out (by decide)) (fun _ hk => hk.2) (.string t290)) (fun _ hk => hk.2) (.int .i64 t291)) (fun _ hk => hk.2) (.slice (some ⟨go37, 0, none⟩) t292.length co55)) (fun _ hk => hk.2) (.int .i64 0)) (fun _ hk => hk.2) (.int .i64 0)) (fun _ hk => trivial), by repeat (first | (with_reducible first | exact HB.out | apply below_alloc | apply pw_below_drewN | apply below_drew1 | refine below_set ?_ GE280.out | refine below_set ?_ GE281.out | refine below_set ?_ GE295.out) | exact HB.out)⟩
         ·
          obtain ⟨w59, hw⟩ : ∃ x_, x_ = (w56.setCell ⟨go37, (t282 : Int).toNat * 4 + 3, none⟩ (.string a2)) := ⟨_, rfl⟩
          try rw [Int.toNat_natCast] at hw
          rw [← hw]
          have hg : w56.grownBy w59 (some go37) := (by rw [hw]; exact HP58.2)
          have hp_ : Kd.R k71 71 w59 w.heap.size (fun _ => True) (.slice (some ⟨go37, 0, none⟩) t292.length co55) y296 := (by rw [hw, Ny296.out]; exact HP58.1)
          clear HP58
          have n0_ := Aside0.mk (blk_grown (g := gb280) (o := .cells #[.string a0_0, .int .i64 a0_1, .slice (some ad289) l0_2.length c0_2] 40 (0, 0)) zb6_10 hg (Kd.R_ne HO294.out BK280.out (by decide)))
          have n1_ := Aside0.mk (blk_grown (g := gb281) (o := .cells #[.string (⟨#[]⟩ : ByteArray), .int .i64 0, .slice none 0 0, .int .i64 0, .int .i64 0] 51 (0, 0)) zb11_10 hg (Kd.R_ne HO294.out BK281.out (by decide)))
          have n2_ := Aside0.mk (Kd.R_over' (v := (.slice (some ⟨go37, 0, none⟩) t292.length co55)) zb13_10 (Kd.R_typed HO294.out) (by decide) hg)
          have n3_ := Aside0.mk (hp_)
          have n4_ := Aside0.mk (blk_grown (g := gb295) (o := .cells #[.string t290, .int .i64 t291, .slice (some ⟨go37, 0, none⟩) t292.length co55] 40 (0, 0)) zb17_10 hg (Kd.R_ne HO294.out BK295.out (by decide)))
          have n5_ := Aside0.mk ((by rw [hw]; exact below_set (HB.out) GB37.out : Below w.heap.size w w59))
          clear BK280
          clear BK281
          clear HO285
          clear HO294
          clear BK295
          clear HB
          have BK280 := n0_
          have BK281 := n1_
          have HO285 := n2_
          have HO294 := n3_
          have BK295 := n4_
          have HB := n5_
          clear n0_ n1_ n2_ n3_ n4_ n5_
          clear hg hw hp_
          have p38 : 0 ≤ (t282 : Int) := of_decide_eq_true zb0_10
          have q38 : (t282 : Int) < ((t292.length : Int) : Int) := of_decide_eq_true zb0_10
          obtain ⟨ce38, hcl38, hM38, hcc38, hfr38⟩ := Kd.R_elem HO294.out z71 (t282 : Int) p38 q38
          obtain rfl := k71_openM hM38
          have hx38_0 : w59.cell? ⟨go37, (t282 : Int).toNat * 4, none⟩ = some (.string ((rd_T71 y296 t282).f0)) := hcc38 0 _ rfl
          have hx38_1 : w59.cell? ⟨go37, (t282 : Int).toNat * 4 + 1, none⟩ = some (.int .i64 ((rd_T71 y296 t282).f1)) := hcc38 1 _ rfl
          have hx38_2 : w59.cell? ⟨go37, (t282 : Int).toNat * 4 + 2, none⟩ = some (.int .i64 ((rd_T71 y296 t282).f2)) := hcc38 2 _ rfl
          have hx38_3 : w59.cell? ⟨go37, (t282 : Int).toNat * 4 + 3, none⟩ = some (.string ((rd_T71 y296 t282).f3)) := hcc38 3 _ rfl
          have hf38_0 : w59.frozen? ⟨go37, (t282 : Int).toNat * 4, none⟩ = false := hfr38 0
          have hf38_1 : w59.frozen? ⟨go37, (t282 : Int).toNat * 4 + 1, none⟩ = false := hfr38 1
          have hf38_2 : w59.frozen? ⟨go37, (t282 : Int).toNat * 4 + 2, none⟩ = false := hfr38 2
          have hf38_3 : w59.frozen? ⟨go37, (t282 : Int).toNat * 4 + 3, none⟩ = false := hfr38 3
          clear hcl38 hcc38 hfr38 hM38
          replace p38 := eq_true p38
          replace q38 := eq_true q38
          have HX60 := Aside0.mk (show Kd.R k71 71 w59 w.heap.size (fun _ => True) (.slice (some ⟨go37, 0, none⟩) t292.length co55) y296 from zb16_10)
          obtain ⟨ce60, hcl60, hM60, hcc60, hfr60⟩ := Kd.R_elem HX60.out z71 (t282 : Int) (of_decide_eq_true zb0_10) (by have h_ : (t282 : Int) < ((t292.length : Int) : Int) := of_decide_eq_true zb0_10; first | exact h_ | (have e_ := (Kd.R_reads' HO294.out).1; omega) | simpa using h_)
          obtain rfl := k71_openM hM60
          have HP60 := Kd.R_seg HX60.out (t282 : Int) (of_decide_eq_true zb0_10) (by have h_ : (t282 : Int) < ((t292.length : Int) : Int) := of_decide_eq_true zb0_10; first | exact h_ | (have e_ := (Kd.R_reads' HO294.out).1; omega) | simpa using h_) (seg := [.int .i64 1]) (j := 2) hcl60 hcc60 (show 3 ≤ 4 from by decide) (x' := (⟨(rd_T71 y296 t282).f0, (rd_T71 y296 t282).f1, 1, (rd_T71 y296 t282).f3⟩ : S71)) (k71_mkM _ _ _ (⟨(rd_T71 y296 t282).f0, (rd_T71 y296 t282).f1, 1, (rd_T71 y296 t282).f3⟩ : S71) ) (fun _ hk => hk)
          have hx60_2 := hcc60 2 _ rfl
          (try simp only [show (k71).sz = 4 from rfl, Nat.mul_one, Nat.add_zero] at hx60_2)
          have hf60_2 := hfr60 2
          (try simp only [show (k71).sz = 4 from rfl, Nat.mul_one, Nat.add_zero] at hf60_2)
          clear hcl60 hcc60 hfr60 hM60
          obtain ⟨w61, hw⟩ : ∃ x_, x_ = (w59.setCell ⟨go37, (t282 : Int).toNat * 4 + 2, none⟩ (.int .i64 1)) := ⟨_, rfl⟩
          try rw [Int.toNat_natCast] at hw
          rw [← hw]
          have hg : w59.grownBy w61 (some go37) := (by rw [hw]; exact HP60.2)
          have hp_ : Kd.R k71 71 w61 w.heap.size (fun _ => True) (.slice (some ⟨go37, 0, none⟩) t292.length co55) y297 := (by rw [hw, Ny297.out]; exact HP60.1)
          clear HP60
          have n0_ := Aside0.mk (blk_grown (g := gb280) (o := .cells #[.string a0_0, .int .i64 a0_1, .slice (some ad289) l0_2.length c0_2] 40 (0, 0)) zb6_10 hg (Kd.R_ne HO294.out BK280.out (by decide)))
          have n1_ := Aside0.mk (blk_grown (g := gb281) (o := .cells #[.string (⟨#[]⟩ : ByteArray), .int .i64 0, .slice none 0 0, .int .i64 0, .int .i64 0] 51 (0, 0)) zb11_10 hg (Kd.R_ne HO294.out BK281.out (by decide)))
          have n2_ := Aside0.mk (Kd.R_over' (v := (.slice (some ⟨go37, 0, none⟩) t292.length co55)) zb13_10 (Kd.R_typed HO294.out) (by decide) hg)
          have n3_ := Aside0.mk (hp_)
          have n4_ := Aside0.mk (blk_grown (g := gb295) (o := .cells #[.string t290, .int .i64 t291, .slice (some ⟨go37, 0, none⟩) t292.length co55] 40 (0, 0)) zb17_10 hg (Kd.R_ne HO294.out BK295.out (by decide)))
          have n5_ := Aside0.mk ((by rw [hw]; exact below_set (HB.out) GB37.out : Below w.heap.size w w61))
          clear BK280
          clear BK281
          clear HO285
          clear HO294
          clear BK295
          clear HB
          have BK280 := n0_
          have BK281 := n1_
          have HO285 := n2_
          have HO294 := n3_
          have BK295 := n4_
          have HB := n5_
          clear n0_ n1_ n2_ n3_ n4_ n5_
          clear hg hw hp_
          have hcz62_0 := bcq_10 BK295.out 0
          have hcz62_1 := bcq_10 BK295.out 1
          have hcz62_2 := bcq_10 BK295.out 2
          have hfz62_0 := blk_frozen BK295.out 0
          have hfz62_1 := blk_frozen BK295.out 1
          have hfz62_2 := blk_frozen BK295.out 2
          have hcz63_0 := bcq_10 BK281.out 0
          have hcz63_1 := bcq_10 BK281.out 1
          have hcz63_2 := bcq_10 BK281.out 2
          have hcz63_3 := bcq_10 BK281.out 3
          have hcz63_4 := bcq_10 BK281.out 4
          have hfz63_0 := blk_frozen BK281.out 0
          have hfz63_1 := blk_frozen BK281.out 1
          have hfz63_2 := blk_frozen BK281.out 2
          have hfz63_3 := blk_frozen BK281.out 3
          have hfz63_4 := blk_frozen BK281.out 4
          go_wp2
          refine bodyPost_ret (results_cell_row rfl _ _ gb281 51 #[.string t290, .int .i64 t291, .slice (some ⟨go37, 0, none⟩) t292.length co55, .int .i64 0, .int .i64 0] (0, 0) _ rfl zb18_10 Tryd.underlying51 rfl (by kernel_rfl)) rfl ?_
          exact ⟨_, by first | rfl | (simp [errW_none, errW_some] <;> rfl) | (simp [*, errW_none, errW_some] <;> rfl), by (with_reducible repeat (first | apply Kd.R_alloc | apply Kd.R_drewN | apply Kd.R_drew)); exact Kd.R_mono (Kd.R_far (p := ⟨gb281, 4, none⟩) (Kd.R_far (p := ⟨gb281, 3, none⟩) (Kd.R_far (p := ⟨gb281, 2, none⟩) (Kd.R_far (p := ⟨gb281, 1, none⟩) (Kd.R_far (p := ⟨gb281, 0, none⟩) (Kd.R_types HO294.out BK281.out (by decide)) (fun _ hk => hk.2) (.string t290)) (fun _ hk => hk.2) (.int .i64 t291)) (fun _ hk => hk.2) (.slice (some ⟨go37, 0, none⟩) t292.length co55)) (fun _ hk => hk.2) (.int .i64 0)) (fun _ hk => hk.2) (.int .i64 0)) (fun _ hk => trivial), by repeat (first | (with_reducible first | exact HB.out | apply below_alloc | apply pw_below_drewN | apply below_drew1 | refine below_set ?_ GE280.out | refine below_set ?_ GE281.out | refine below_set ?_ GE295.out) | exact HB.out)⟩
        ·
         rw [if_neg c36] at H
         exact absurd H (by simp)
       ·
        rw [if_neg c34] at H
        have c34b0 : (((rd_T71 l0_2 t282).f2) == 0) = false := beq_eq_false_iff_ne.mpr c34
        have c34b1 : (((rd_T71 l0_2 t282).f2) != 0) = true := bne_iff_ne.mpr c34
        simp only [Option.some.injEq, Prod.mk.injEq] at H
        obtain ⟨rfl, rfl, rfl, rfl, rfl⟩ := H
        go_enter Tryd.func35, Tryd.ntmps35
        go_wp2_with (first | ((with_reducible refine gate_dst (N := 3) rfl ?_); refine box_event ?hg (N := 3) ?hd (cs := #[.string a0_0, .int .i64 a0_1, .slice A0_2 l0_2.length c0_2]) (t := 40) ?hr ?_; (case hd => rfl); (case hg => rfl); (case hr => first | (go_simp; done) | (go_simp; rfl)); intro gb280 hg w64 hbox hb; have n0_ := Aside0.mk (below_step zb1_10 hb); have n1_ := Aside0.mk (hbox); have n2_ := Aside0.mk ((zb2_10 : w.heap.size ≤ gb280)); have n3_ := Aside0.mk ((zb2_10 : w.heap.size ≤ gb280)); clear HB; have HB := n0_; have BK280 := n1_; have GW280 := n2_; have GE280 := n3_; clear n0_ n1_ n2_ n3_; clear hb hbox hg) | ((with_reducible refine gate_dst (N := 6) rfl ?_); refine box_event ?hg (N := 6) ?hd (cs := #[.string (⟨#[]⟩ : ByteArray), .int .i64 0, .slice none 0 0, .int .i64 0, .int .i64 0]) (t := 51) ?hr ?_; (case hd => rfl); (case hg => rfl); (case hr => first | (go_simp; done) | (go_simp; rfl)); intro gb281 hg w65 hbox hb; have n0_ := Aside0.mk (blk_below (g := gb280) (o := .cells #[.string a0_0, .int .i64 a0_1, .slice A0_2 l0_2.length c0_2] 40 (0, 0)) zb6_10 hb); have n1_ := Aside0.mk (below_step zb7_10 hb); have n2_ := Aside0.mk (hbox); have n3_ := Aside0.mk ((zb8_10 : w.heap.size ≤ gb281)); have n4_ := Aside0.mk ((zb8_10 : w.heap.size ≤ gb281)); have n5_ := Aside0.mk ((zb9_10 : gb280 ≠ gb281)); have n6_ := Aside0.mk ((zb10_10 : gb281 ≠ gb280)); clear BK280; clear HB; have BK280 := n0_; have HB := n1_; have BK281 := n2_; have GW281 := n3_; have GE281 := n4_; have NB280_281 := n5_; have NB281_280 := n6_; clear n0_ n1_ n2_ n3_ n4_ n5_ n6_; clear hb hbox hg; have hnb66 := NB280_281.out; have hnc66 := NB281_280.out; have hcz67_0 := bcq_10 BK280.out 0; have hcz67_1 := bcq_10 BK280.out 1; have hcz67_2 := bcq_10 BK280.out 2; have hfz67_0 := blk_frozen BK280.out 0; have hfz67_1 := blk_frozen BK280.out 1; have hfz67_2 := blk_frozen BK280.out 2) | ((with_reducible refine gate_callee (f := 54) rfl ?_); refine goesL_ (some 11) rfl rfl Tryd.func54 (by kernel_rfl) rfl #[.agg #[.string a0_0, .int .i64 a0_1, .slice A0_2 l0_2.length c0_2], .int .i64 a1] rfl zb5_10 ?_; (with_reducible refine (impl_peerAt.calls a0_0 a0_1 _ _ l0_2 a1 t282 _ ?side1 ?side2 A4.out).mono ?_); (case side1 => repeat (first | exact (Kd.C_below HR0_2.out HB.out) | (with_reducible refine Kd.C_alloc ?_ _) | (with_reducible refine Kd.C_drewN ?_ _) | (with_reducible refine Kd.C_drew ?_))); (case side2 => exact HC0_2.out); rintro e w68 ⟨rfl, hb⟩; refine ⟨_, rfl, ?_⟩; have n0_ := Aside0.mk (blk_below (g := gb280) (o := .cells #[.string a0_0, .int .i64 a0_1, .slice A0_2 l0_2.length c0_2] 40 (0, 0)) zb6_10 hb); have n1_ := Aside0.mk (blk_below (g := gb281) (o := .cells #[.string (⟨#[]⟩ : ByteArray), .int .i64 0, .slice none 0 0, .int .i64 0, .int .i64 0] 51 (0, 0)) zb11_10 hb); have n2_ := Aside0.mk (below_step zb12_10 hb); clear BK280; clear BK281; clear HB; have BK280 := n0_; have BK281 := n1_; have HB := n2_; clear n0_ n1_ n2_; (try clear hb); (try clear hb2); (try clear hk); (try clear hi)) | ((with_reducible refine gate_dst (N := 14) rfl ?_); refine Kd.R_lit Kd.string _ 9 ?hg (N := 14) ?hd (xs := ([a2] : List ByteArray)) (inner := [.string a2]) (ok := fun _ => True) (okp := fun _ => True) ?hr ?hp (fun _ hk => hk) trivial (Below.refl _ _) (Nat.le_refl _) (by simp) ?_; (case hd => rfl); (case hg => rfl); (case hr => first | (go_simp; done) | (go_simp; rfl)); (case hp => exact (Reps.one (show Kd.M Kd.string _ _ _ a2 [.string a2] from rfl) (Reps.none _ _))); intro v284 w69 ho70 hb hg_ hnew_; clear hg_ hnew_; (first | rw [← Ny283.out] at ho70 | (simp only [Int.reduceToNat] at ho70; rw [← Ny283.out] at ho70)); have n0_ := Aside0.mk (Kd.R_lower ho70 (below_size zb12_10)); have n1_ := Aside0.mk (blk_below (g := gb280) (o := .cells #[.string a0_0, .int .i64 a0_1, .slice A0_2 l0_2.length c0_2] 40 (0, 0)) zb6_10 hb); have n2_ := Aside0.mk (blk_below (g := gb281) (o := .cells #[.string (⟨#[]⟩ : ByteArray), .int .i64 0, .slice none 0 0, .int .i64 0, .int .i64 0] 51 (0, 0)) zb11_10 hb); have n3_ := Aside0.mk (below_step zb12_10 hb); clear BK280; clear BK281; clear HB; have HO285 := n0_; have BK280 := n1_; have BK281 := n2_; have HB := n3_; clear n0_ n1_ n2_ n3_; clear hb ho70; obtain ⟨Ao71, co71, eo71⟩ := Kd.R_slice HO285.out; subst eo71) | ((with_reducible refine gate_callee (f := 59) rfl ?_); refine goesL_ (some 15) rfl rfl Tryd.func59 (by kernel_rfl) rfl #[.slice Ao71 y283.length co71] rfl zb5_10 ?_; (with_reducible refine (impl_long.calls k _ _ y283 false _ ?side1 ?side2 A5.out).mono ?_); (case side1 => repeat (first | exact (Kd.R_reads' HO285.out).2.2 | (with_reducible refine Kd.C_alloc ?_ _) | (with_reducible refine Kd.C_drewN ?_ _) | (with_reducible refine Kd.C_drew ?_))); (case side2 => exact (Kd.R_reads' HO285.out).2.1); rintro e w' ⟨rfl, ⟨nd, rfl⟩⟩; refine ⟨_, rfl, ?_⟩; (try (rw [drewN_self w69]; generalize hq_ : World.drewN w69 _ = w69; have n0_ : Aside0 (Kd.R Kd.string 9 w69 w.heap.size (fun _ => True) (.slice Ao71 y283.length co71) y283) := ⟨by rw [← hq_]; exact zb13_10⟩; have n1_ : Aside0 (w69.heap[gb280]? = some (.cells #[.string a0_0, .int .i64 a0_1, .slice A0_2 l0_2.length c0_2] 40 (0, 0))) := ⟨by rw [← hq_]; exact zb6_10⟩; have n2_ : Aside0 (w69.heap[gb281]? = some (.cells #[.string (⟨#[]⟩ : ByteArray), .int .i64 0, .slice none 0 0, .int .i64 0, .int .i64 0] 51 (0, 0))) := ⟨by rw [← hq_]; exact zb11_10⟩; have n3_ : Aside0 (Below w.heap.size w w69) := ⟨by rw [← hq_]; exact zb12_10⟩; clear HO285 BK280 BK281 HB hq_; have HO285 := n0_; have BK280 := n1_; have BK281 := n2_; have HB := n3_; clear n0_ n1_ n2_ n3_)); have hcz72_0 := bcq_10 BK280.out 0; have hcz72_1 := bcq_10 BK280.out 1; have hcz72_2 := bcq_10 BK280.out 2; have hfz72_0 := blk_frozen BK280.out 0; have hfz72_1 := blk_frozen BK280.out 1; have hfz72_2 := blk_frozen BK280.out 2) | ((with_reducible refine gate_callee (f := 18) rfl ?_); refine goesL_ (some 19) rfl rfl Tryd.func18 (by kernel_rfl) rfl #[.agg #[.string a0_0, .int .i64 a0_1, .slice A0_2 l0_2.length c0_2]] rfl zb5_10 ?_; (with_reducible refine (impl_DialbackRight.calls k a0_0 a0_1 _ _ l0_2 true _ ?side1 ?side2 A16.out zb15_10).mono ?_); (case side1 => repeat (first | exact (Kd.C_below HR0_2.out HB.out) | (with_reducible refine Kd.C_alloc ?_ _) | (with_reducible refine Kd.C_drewN ?_ _) | (with_reducible refine Kd.C_drew ?_))); (case side2 => exact HC0_2.out); rintro e w73 ⟨rfl, hb⟩; refine ⟨_, rfl, ?_⟩; have n0_ := Aside0.mk (Kd.R_below zb13_10 hb); have n1_ := Aside0.mk (blk_below (g := gb280) (o := .cells #[.string a0_0, .int .i64 a0_1, .slice A0_2 l0_2.length c0_2] 40 (0, 0)) zb6_10 hb); have n2_ := Aside0.mk (blk_below (g := gb281) (o := .cells #[.string (⟨#[]⟩ : ByteArray), .int .i64 0, .slice none 0 0, .int .i64 0, .int .i64 0] 51 (0, 0)) zb11_10 hb); have n3_ := Aside0.mk (below_step zb12_10 hb); clear HO285; clear BK280; clear BK281; clear HB; have HO285 := n0_; have BK280 := n1_; have BK281 := n2_; have HB := n3_; clear n0_ n1_ n2_ n3_; (try clear hb); (try clear hb2); (try clear hk); (try clear hi)) | ((with_reducible refine gate_callee (f := 51) rfl ?_); refine goesL_ (some 29) rfl rfl Tryd.func51 (by kernel_rfl) rfl #[.int .i64 (a2.size : Int), .int .i64 1, .int .i64 64] rfl zb5_10 ?_; (with_reducible refine (impl_in.calls (a2.size : Int) 1 64 true _ A30.out).mono ?_); rintro e w' ⟨rfl, ⟨nd, rfl⟩⟩; refine ⟨_, rfl, ?_⟩; (try (rw [drewN_self w73]; generalize hq_ : World.drewN w73 _ = w73; have n0_ : Aside0 (Kd.R Kd.string 9 w73 w.heap.size (fun _ => True) (.slice Ao71 y283.length co71) y283) := ⟨by rw [← hq_]; exact zb13_10⟩; have n1_ : Aside0 (w73.heap[gb280]? = some (.cells #[.string a0_0, .int .i64 a0_1, .slice A0_2 l0_2.length c0_2] 40 (0, 0))) := ⟨by rw [← hq_]; exact zb6_10⟩; have n2_ : Aside0 (w73.heap[gb281]? = some (.cells #[.string (⟨#[]⟩ : ByteArray), .int .i64 0, .slice none 0 0, .int .i64 0, .int .i64 0] 51 (0, 0))) := ⟨by rw [← hq_]; exact zb11_10⟩; have n3_ : Aside0 (Below w.heap.size w w73) := ⟨by rw [← hq_]; exact zb12_10⟩; clear HO285 BK280 BK281 HB hq_; have HO285 := n0_; have BK280 := n1_; have BK281 := n2_; have HB := n3_; clear n0_ n1_ n2_ n3_)); have hcz74_0 := bcq_10 BK280.out 0; have hcz74_1 := bcq_10 BK280.out 1; have hcz74_2 := bcq_10 BK280.out 2; have hfz74_0 := blk_frozen BK280.out 0; have hfz74_1 := blk_frozen BK280.out 1; have hfz74_2 := blk_frozen BK280.out 2; have p289 : 0 ≤ (t282 : Int) := of_decide_eq_true zb0_10; have q289 : t282 < (l0_2.length : Int) := of_decide_eq_true zb0_10; obtain ⟨ad289, e289, hx289_0, hx289_1, hx289_2, hx289_3⟩ := at_T71 HR0_2.out t282 p289 q289; cases e289; replace hx289_0 := (HB.out.cell (World.block_lt_of_cell? w _ hx289_0)).trans hx289_0; replace hx289_1 := (HB.out.cell (World.block_lt_of_cell? w _ hx289_1)).trans hx289_1; replace hx289_2 := (HB.out.cell (World.block_lt_of_cell? w _ hx289_2)).trans hx289_2; replace hx289_3 := (HB.out.cell (World.block_lt_of_cell? w _ hx289_3)).trans hx289_3; replace p289 := eq_true p289; replace q289 := eq_true q289; have hcz75_0 := bcq_10 BK281.out 0; have hcz75_1 := bcq_10 BK281.out 1; have hcz75_2 := bcq_10 BK281.out 2; have hcz75_3 := bcq_10 BK281.out 3; have hcz75_4 := bcq_10 BK281.out 4; have hfz75_0 := blk_frozen BK281.out 0; have hfz75_1 := blk_frozen BK281.out 1; have hfz75_2 := blk_frozen BK281.out 2; have hfz75_3 := blk_frozen BK281.out 3; have hfz75_4 := blk_frozen BK281.out 4))
        refine bodyPost_ret (results_cell_row rfl _ _ gb281 51 #[.string (⟨#[]⟩ : ByteArray), .int .i64 0, .slice none 0 0, .int .i64 0, .int .i64 10] (0, 0) _ rfl zb14_10 Tryd.underlying51 rfl (by kernel_rfl)) rfl ?_
        exact ⟨_, by first | rfl | (simp [errW_none, errW_some] <;> rfl) | (simp [*, errW_none, errW_some] <;> rfl), by first | exact Kd.R_nil _ _ _ _ _ | exact Kd.N_nil _ _ _ _ _ | exact Kd.V_nil _ _ _ _ _ | exact Kd.Q_nil _ _ _ _ _ | exact Kd.S_nil _ _ _ _ _, by repeat (first | (with_reducible first | exact HB.out | apply below_alloc | apply pw_below_drewN | apply below_drew1 | refine below_set ?_ GE280.out | refine below_set ?_ GE281.out) | exact HB.out)⟩
      ·
       rw [if_neg c33] at H
       exact absurd H (by simp)
     ·
      rw [if_neg c32] at H
      exact absurd H (by simp)
    ·
     replace c31 := Bool.eq_false_iff.mpr c31
     subst c31
     have H1 : (some ((⟨#[]⟩ : ByteArray), 0, ([] : List (S71)), 0, 1)) = some (r1, r2, r3, r4, r5) := by rw [if_neg (show ¬ (false = true) by decide)] at H; exact H
     clear H
     have H := H1
     clear H1
     simp only [Option.some.injEq, Prod.mk.injEq] at H
     obtain ⟨rfl, rfl, rfl, rfl, rfl⟩ := H
     go_enter Tryd.func35, Tryd.ntmps35
     go_wp2_with (first | ((with_reducible refine gate_dst (N := 3) rfl ?_); refine box_event ?hg (N := 3) ?hd (cs := #[.string a0_0, .int .i64 a0_1, .slice A0_2 l0_2.length c0_2]) (t := 40) ?hr ?_; (case hd => rfl); (case hg => rfl); (case hr => first | (go_simp; done) | (go_simp; rfl)); intro gb280 hg w76 hbox hb; have n0_ := Aside0.mk (below_step zb1_10 hb); have n1_ := Aside0.mk (hbox); have n2_ := Aside0.mk ((zb2_10 : w.heap.size ≤ gb280)); have n3_ := Aside0.mk ((zb2_10 : w.heap.size ≤ gb280)); clear HB; have HB := n0_; have BK280 := n1_; have GW280 := n2_; have GE280 := n3_; clear n0_ n1_ n2_ n3_; clear hb hbox hg) | ((with_reducible refine gate_dst (N := 6) rfl ?_); refine box_event ?hg (N := 6) ?hd (cs := #[.string (⟨#[]⟩ : ByteArray), .int .i64 0, .slice none 0 0, .int .i64 0, .int .i64 0]) (t := 51) ?hr ?_; (case hd => rfl); (case hg => rfl); (case hr => first | (go_simp; done) | (go_simp; rfl)); intro gb281 hg w77 hbox hb; have n0_ := Aside0.mk (blk_below (g := gb280) (o := .cells #[.string a0_0, .int .i64 a0_1, .slice A0_2 l0_2.length c0_2] 40 (0, 0)) zb6_10 hb); have n1_ := Aside0.mk (below_step zb7_10 hb); have n2_ := Aside0.mk (hbox); have n3_ := Aside0.mk ((zb8_10 : w.heap.size ≤ gb281)); have n4_ := Aside0.mk ((zb8_10 : w.heap.size ≤ gb281)); have n5_ := Aside0.mk ((zb9_10 : gb280 ≠ gb281)); have n6_ := Aside0.mk ((zb10_10 : gb281 ≠ gb280)); clear BK280; clear HB; have BK280 := n0_; have HB := n1_; have BK281 := n2_; have GW281 := n3_; have GE281 := n4_; have NB280_281 := n5_; have NB281_280 := n6_; clear n0_ n1_ n2_ n3_ n4_ n5_ n6_; clear hb hbox hg; have hnb78 := NB280_281.out; have hnc78 := NB281_280.out; have hcz79_0 := bcq_10 BK280.out 0; have hcz79_1 := bcq_10 BK280.out 1; have hcz79_2 := bcq_10 BK280.out 2; have hfz79_0 := blk_frozen BK280.out 0; have hfz79_1 := blk_frozen BK280.out 1; have hfz79_2 := blk_frozen BK280.out 2) | ((with_reducible refine gate_callee (f := 54) rfl ?_); refine goesL_ (some 11) rfl rfl Tryd.func54 (by kernel_rfl) rfl #[.agg #[.string a0_0, .int .i64 a0_1, .slice A0_2 l0_2.length c0_2], .int .i64 a1] rfl zb5_10 ?_; (with_reducible refine (impl_peerAt.calls a0_0 a0_1 _ _ l0_2 a1 t282 _ ?side1 ?side2 A4.out).mono ?_); (case side1 => repeat (first | exact (Kd.C_below HR0_2.out HB.out) | (with_reducible refine Kd.C_alloc ?_ _) | (with_reducible refine Kd.C_drewN ?_ _) | (with_reducible refine Kd.C_drew ?_))); (case side2 => exact HC0_2.out); rintro e w80 ⟨rfl, hb⟩; refine ⟨_, rfl, ?_⟩; have n0_ := Aside0.mk (blk_below (g := gb280) (o := .cells #[.string a0_0, .int .i64 a0_1, .slice A0_2 l0_2.length c0_2] 40 (0, 0)) zb6_10 hb); have n1_ := Aside0.mk (blk_below (g := gb281) (o := .cells #[.string (⟨#[]⟩ : ByteArray), .int .i64 0, .slice none 0 0, .int .i64 0, .int .i64 0] 51 (0, 0)) zb11_10 hb); have n2_ := Aside0.mk (below_step zb12_10 hb); clear BK280; clear BK281; clear HB; have BK280 := n0_; have BK281 := n1_; have HB := n2_; clear n0_ n1_ n2_; (try clear hb); (try clear hb2); (try clear hk); (try clear hi)) | ((with_reducible refine gate_dst (N := 14) rfl ?_); refine Kd.R_lit Kd.string _ 9 ?hg (N := 14) ?hd (xs := ([a2] : List ByteArray)) (inner := [.string a2]) (ok := fun _ => True) (okp := fun _ => True) ?hr ?hp (fun _ hk => hk) trivial (Below.refl _ _) (Nat.le_refl _) (by simp) ?_; (case hd => rfl); (case hg => rfl); (case hr => first | (go_simp; done) | (go_simp; rfl)); (case hp => exact (Reps.one (show Kd.M Kd.string _ _ _ a2 [.string a2] from rfl) (Reps.none _ _))); intro v284 w81 ho82 hb hg_ hnew_; clear hg_ hnew_; (first | rw [← Ny283.out] at ho82 | (simp only [Int.reduceToNat] at ho82; rw [← Ny283.out] at ho82)); have n0_ := Aside0.mk (Kd.R_lower ho82 (below_size zb12_10)); have n1_ := Aside0.mk (blk_below (g := gb280) (o := .cells #[.string a0_0, .int .i64 a0_1, .slice A0_2 l0_2.length c0_2] 40 (0, 0)) zb6_10 hb); have n2_ := Aside0.mk (blk_below (g := gb281) (o := .cells #[.string (⟨#[]⟩ : ByteArray), .int .i64 0, .slice none 0 0, .int .i64 0, .int .i64 0] 51 (0, 0)) zb11_10 hb); have n3_ := Aside0.mk (below_step zb12_10 hb); clear BK280; clear BK281; clear HB; have HO285 := n0_; have BK280 := n1_; have BK281 := n2_; have HB := n3_; clear n0_ n1_ n2_ n3_; clear hb ho82; obtain ⟨Ao83, co83, eo83⟩ := Kd.R_slice HO285.out; subst eo83) | ((with_reducible refine gate_callee (f := 59) rfl ?_); refine goesL_ (some 15) rfl rfl Tryd.func59 (by kernel_rfl) rfl #[.slice Ao83 y283.length co83] rfl zb5_10 ?_; (with_reducible refine (impl_long.calls k _ _ y283 false _ ?side1 ?side2 A5.out).mono ?_); (case side1 => repeat (first | exact (Kd.R_reads' HO285.out).2.2 | (with_reducible refine Kd.C_alloc ?_ _) | (with_reducible refine Kd.C_drewN ?_ _) | (with_reducible refine Kd.C_drew ?_))); (case side2 => exact (Kd.R_reads' HO285.out).2.1); rintro e w' ⟨rfl, ⟨nd, rfl⟩⟩; refine ⟨_, rfl, ?_⟩; (try (rw [drewN_self w81]; generalize hq_ : World.drewN w81 _ = w81; have n0_ : Aside0 (Kd.R Kd.string 9 w81 w.heap.size (fun _ => True) (.slice Ao83 y283.length co83) y283) := ⟨by rw [← hq_]; exact zb13_10⟩; have n1_ : Aside0 (w81.heap[gb280]? = some (.cells #[.string a0_0, .int .i64 a0_1, .slice A0_2 l0_2.length c0_2] 40 (0, 0))) := ⟨by rw [← hq_]; exact zb6_10⟩; have n2_ : Aside0 (w81.heap[gb281]? = some (.cells #[.string (⟨#[]⟩ : ByteArray), .int .i64 0, .slice none 0 0, .int .i64 0, .int .i64 0] 51 (0, 0))) := ⟨by rw [← hq_]; exact zb11_10⟩; have n3_ : Aside0 (Below w.heap.size w w81) := ⟨by rw [← hq_]; exact zb12_10⟩; clear HO285 BK280 BK281 HB hq_; have HO285 := n0_; have BK280 := n1_; have BK281 := n2_; have HB := n3_; clear n0_ n1_ n2_ n3_)); have hcz84_0 := bcq_10 BK280.out 0; have hcz84_1 := bcq_10 BK280.out 1; have hcz84_2 := bcq_10 BK280.out 2; have hfz84_0 := blk_frozen BK280.out 0; have hfz84_1 := blk_frozen BK280.out 1; have hfz84_2 := blk_frozen BK280.out 2) | ((with_reducible refine gate_callee (f := 18) rfl ?_); refine goesL_ (some 19) rfl rfl Tryd.func18 (by kernel_rfl) rfl #[.agg #[.string a0_0, .int .i64 a0_1, .slice A0_2 l0_2.length c0_2]] rfl zb5_10 ?_; (with_reducible refine (impl_DialbackRight.calls k a0_0 a0_1 _ _ l0_2 true _ ?side1 ?side2 A16.out zb15_10).mono ?_); (case side1 => repeat (first | exact (Kd.C_below HR0_2.out HB.out) | (with_reducible refine Kd.C_alloc ?_ _) | (with_reducible refine Kd.C_drewN ?_ _) | (with_reducible refine Kd.C_drew ?_))); (case side2 => exact HC0_2.out); rintro e w85 ⟨rfl, hb⟩; refine ⟨_, rfl, ?_⟩; have n0_ := Aside0.mk (Kd.R_below zb13_10 hb); have n1_ := Aside0.mk (blk_below (g := gb280) (o := .cells #[.string a0_0, .int .i64 a0_1, .slice A0_2 l0_2.length c0_2] 40 (0, 0)) zb6_10 hb); have n2_ := Aside0.mk (blk_below (g := gb281) (o := .cells #[.string (⟨#[]⟩ : ByteArray), .int .i64 0, .slice none 0 0, .int .i64 0, .int .i64 0] 51 (0, 0)) zb11_10 hb); have n3_ := Aside0.mk (below_step zb12_10 hb); clear HO285; clear BK280; clear BK281; clear HB; have HO285 := n0_; have BK280 := n1_; have BK281 := n2_; have HB := n3_; clear n0_ n1_ n2_ n3_; (try clear hb); (try clear hb2); (try clear hk); (try clear hi)) | ((with_reducible refine gate_callee (f := 51) rfl ?_); refine goesL_ (some 29) rfl rfl Tryd.func51 (by kernel_rfl) rfl #[.int .i64 (a2.size : Int), .int .i64 1, .int .i64 64] rfl zb5_10 ?_; (with_reducible refine (impl_in.calls (a2.size : Int) 1 64 false _ A30.out).mono ?_); rintro e w' ⟨rfl, ⟨nd, rfl⟩⟩; refine ⟨_, rfl, ?_⟩; (try (rw [drewN_self w85]; generalize hq_ : World.drewN w85 _ = w85; have n0_ : Aside0 (Kd.R Kd.string 9 w85 w.heap.size (fun _ => True) (.slice Ao83 y283.length co83) y283) := ⟨by rw [← hq_]; exact zb13_10⟩; have n1_ : Aside0 (w85.heap[gb280]? = some (.cells #[.string a0_0, .int .i64 a0_1, .slice A0_2 l0_2.length c0_2] 40 (0, 0))) := ⟨by rw [← hq_]; exact zb6_10⟩; have n2_ : Aside0 (w85.heap[gb281]? = some (.cells #[.string (⟨#[]⟩ : ByteArray), .int .i64 0, .slice none 0 0, .int .i64 0, .int .i64 0] 51 (0, 0))) := ⟨by rw [← hq_]; exact zb11_10⟩; have n3_ : Aside0 (Below w.heap.size w w85) := ⟨by rw [← hq_]; exact zb12_10⟩; clear HO285 BK280 BK281 HB hq_; have HO285 := n0_; have BK280 := n1_; have BK281 := n2_; have HB := n3_; clear n0_ n1_ n2_ n3_)); have hcz86_0 := bcq_10 BK281.out 0; have hcz86_1 := bcq_10 BK281.out 1; have hcz86_2 := bcq_10 BK281.out 2; have hcz86_3 := bcq_10 BK281.out 3; have hcz86_4 := bcq_10 BK281.out 4; have hfz86_0 := blk_frozen BK281.out 0; have hfz86_1 := blk_frozen BK281.out 1; have hfz86_2 := blk_frozen BK281.out 2; have hfz86_3 := blk_frozen BK281.out 3; have hfz86_4 := blk_frozen BK281.out 4))
     refine bodyPost_ret (results_cell_row rfl _ _ gb281 51 #[.string (⟨#[]⟩ : ByteArray), .int .i64 0, .slice none 0 0, .int .i64 0, .int .i64 1] (0, 0) _ rfl zb14_10 Tryd.underlying51 rfl (by kernel_rfl)) rfl ?_
     exact ⟨_, by first | rfl | (simp [errW_none, errW_some] <;> rfl) | (simp [*, errW_none, errW_some] <;> rfl), by first | exact Kd.R_nil _ _ _ _ _ | exact Kd.N_nil _ _ _ _ _ | exact Kd.V_nil _ _ _ _ _ | exact Kd.Q_nil _ _ _ _ _ | exact Kd.S_nil _ _ _ _ _, by repeat (first | (with_reducible first | exact HB.out | apply below_alloc | apply pw_below_drewN | apply below_drew1 | refine below_set ?_ GE280.out | refine below_set ?_ GE281.out) | exact HB.out)⟩
  ·
   replace c17 := Bool.eq_false_iff.mpr c17
   subst c17
   have H1 : (some ((⟨#[]⟩ : ByteArray), 0, ([] : List (S71)), 0, 1)) = some (r1, r2, r3, r4, r5) := by rw [if_neg (show ¬ (false = true) by decide)] at H; exact H
   clear H
   have H := H1
   clear H1
   simp only [Option.some.injEq, Prod.mk.injEq] at H
   obtain ⟨rfl, rfl, rfl, rfl, rfl⟩ := H
   go_enter Tryd.func35, Tryd.ntmps35
   go_wp2_with (first | ((with_reducible refine gate_dst (N := 3) rfl ?_); refine box_event ?hg (N := 3) ?hd (cs := #[.string a0_0, .int .i64 a0_1, .slice A0_2 l0_2.length c0_2]) (t := 40) ?hr ?_; (case hd => rfl); (case hg => rfl); (case hr => first | (go_simp; done) | (go_simp; rfl)); intro gb280 hg w87 hbox hb; have n0_ := Aside0.mk (below_step zb1_10 hb); have n1_ := Aside0.mk (hbox); have n2_ := Aside0.mk ((zb2_10 : w.heap.size ≤ gb280)); have n3_ := Aside0.mk ((zb2_10 : w.heap.size ≤ gb280)); clear HB; have HB := n0_; have BK280 := n1_; have GW280 := n2_; have GE280 := n3_; clear n0_ n1_ n2_ n3_; clear hb hbox hg) | ((with_reducible refine gate_dst (N := 6) rfl ?_); refine box_event ?hg (N := 6) ?hd (cs := #[.string (⟨#[]⟩ : ByteArray), .int .i64 0, .slice none 0 0, .int .i64 0, .int .i64 0]) (t := 51) ?hr ?_; (case hd => rfl); (case hg => rfl); (case hr => first | (go_simp; done) | (go_simp; rfl)); intro gb281 hg w88 hbox hb; have n0_ := Aside0.mk (blk_below (g := gb280) (o := .cells #[.string a0_0, .int .i64 a0_1, .slice A0_2 l0_2.length c0_2] 40 (0, 0)) zb6_10 hb); have n1_ := Aside0.mk (below_step zb7_10 hb); have n2_ := Aside0.mk (hbox); have n3_ := Aside0.mk ((zb8_10 : w.heap.size ≤ gb281)); have n4_ := Aside0.mk ((zb8_10 : w.heap.size ≤ gb281)); have n5_ := Aside0.mk ((zb9_10 : gb280 ≠ gb281)); have n6_ := Aside0.mk ((zb10_10 : gb281 ≠ gb280)); clear BK280; clear HB; have BK280 := n0_; have HB := n1_; have BK281 := n2_; have GW281 := n3_; have GE281 := n4_; have NB280_281 := n5_; have NB281_280 := n6_; clear n0_ n1_ n2_ n3_ n4_ n5_ n6_; clear hb hbox hg; have hnb89 := NB280_281.out; have hnc89 := NB281_280.out; have hcz90_0 := bcq_10 BK280.out 0; have hcz90_1 := bcq_10 BK280.out 1; have hcz90_2 := bcq_10 BK280.out 2; have hfz90_0 := blk_frozen BK280.out 0; have hfz90_1 := blk_frozen BK280.out 1; have hfz90_2 := blk_frozen BK280.out 2) | ((with_reducible refine gate_callee (f := 54) rfl ?_); refine goesL_ (some 11) rfl rfl Tryd.func54 (by kernel_rfl) rfl #[.agg #[.string a0_0, .int .i64 a0_1, .slice A0_2 l0_2.length c0_2], .int .i64 a1] rfl zb5_10 ?_; (with_reducible refine (impl_peerAt.calls a0_0 a0_1 _ _ l0_2 a1 t282 _ ?side1 ?side2 A4.out).mono ?_); (case side1 => repeat (first | exact (Kd.C_below HR0_2.out HB.out) | (with_reducible refine Kd.C_alloc ?_ _) | (with_reducible refine Kd.C_drewN ?_ _) | (with_reducible refine Kd.C_drew ?_))); (case side2 => exact HC0_2.out); rintro e w91 ⟨rfl, hb⟩; refine ⟨_, rfl, ?_⟩; have n0_ := Aside0.mk (blk_below (g := gb280) (o := .cells #[.string a0_0, .int .i64 a0_1, .slice A0_2 l0_2.length c0_2] 40 (0, 0)) zb6_10 hb); have n1_ := Aside0.mk (blk_below (g := gb281) (o := .cells #[.string (⟨#[]⟩ : ByteArray), .int .i64 0, .slice none 0 0, .int .i64 0, .int .i64 0] 51 (0, 0)) zb11_10 hb); have n2_ := Aside0.mk (below_step zb12_10 hb); clear BK280; clear BK281; clear HB; have BK280 := n0_; have BK281 := n1_; have HB := n2_; clear n0_ n1_ n2_; (try clear hb); (try clear hb2); (try clear hk); (try clear hi)) | ((with_reducible refine gate_dst (N := 14) rfl ?_); refine Kd.R_lit Kd.string _ 9 ?hg (N := 14) ?hd (xs := ([a2] : List ByteArray)) (inner := [.string a2]) (ok := fun _ => True) (okp := fun _ => True) ?hr ?hp (fun _ hk => hk) trivial (Below.refl _ _) (Nat.le_refl _) (by simp) ?_; (case hd => rfl); (case hg => rfl); (case hr => first | (go_simp; done) | (go_simp; rfl)); (case hp => exact (Reps.one (show Kd.M Kd.string _ _ _ a2 [.string a2] from rfl) (Reps.none _ _))); intro v284 w92 ho93 hb hg_ hnew_; clear hg_ hnew_; (first | rw [← Ny283.out] at ho93 | (simp only [Int.reduceToNat] at ho93; rw [← Ny283.out] at ho93)); have n0_ := Aside0.mk (Kd.R_lower ho93 (below_size zb12_10)); have n1_ := Aside0.mk (blk_below (g := gb280) (o := .cells #[.string a0_0, .int .i64 a0_1, .slice A0_2 l0_2.length c0_2] 40 (0, 0)) zb6_10 hb); have n2_ := Aside0.mk (blk_below (g := gb281) (o := .cells #[.string (⟨#[]⟩ : ByteArray), .int .i64 0, .slice none 0 0, .int .i64 0, .int .i64 0] 51 (0, 0)) zb11_10 hb); have n3_ := Aside0.mk (below_step zb12_10 hb); clear BK280; clear BK281; clear HB; have HO285 := n0_; have BK280 := n1_; have BK281 := n2_; have HB := n3_; clear n0_ n1_ n2_ n3_; clear hb ho93; obtain ⟨Ao94, co94, eo94⟩ := Kd.R_slice HO285.out; subst eo94) | ((with_reducible refine gate_callee (f := 59) rfl ?_); refine goesL_ (some 15) rfl rfl Tryd.func59 (by kernel_rfl) rfl #[.slice Ao94 y283.length co94] rfl zb5_10 ?_; (with_reducible refine (impl_long.calls k _ _ y283 false _ ?side1 ?side2 A5.out).mono ?_); (case side1 => repeat (first | exact (Kd.R_reads' HO285.out).2.2 | (with_reducible refine Kd.C_alloc ?_ _) | (with_reducible refine Kd.C_drewN ?_ _) | (with_reducible refine Kd.C_drew ?_))); (case side2 => exact (Kd.R_reads' HO285.out).2.1); rintro e w' ⟨rfl, ⟨nd, rfl⟩⟩; refine ⟨_, rfl, ?_⟩; (try (rw [drewN_self w92]; generalize hq_ : World.drewN w92 _ = w92; have n0_ : Aside0 (Kd.R Kd.string 9 w92 w.heap.size (fun _ => True) (.slice Ao94 y283.length co94) y283) := ⟨by rw [← hq_]; exact zb13_10⟩; have n1_ : Aside0 (w92.heap[gb280]? = some (.cells #[.string a0_0, .int .i64 a0_1, .slice A0_2 l0_2.length c0_2] 40 (0, 0))) := ⟨by rw [← hq_]; exact zb6_10⟩; have n2_ : Aside0 (w92.heap[gb281]? = some (.cells #[.string (⟨#[]⟩ : ByteArray), .int .i64 0, .slice none 0 0, .int .i64 0, .int .i64 0] 51 (0, 0))) := ⟨by rw [← hq_]; exact zb11_10⟩; have n3_ : Aside0 (Below w.heap.size w w92) := ⟨by rw [← hq_]; exact zb12_10⟩; clear HO285 BK280 BK281 HB hq_; have HO285 := n0_; have BK280 := n1_; have BK281 := n2_; have HB := n3_; clear n0_ n1_ n2_ n3_)); have hcz95_0 := bcq_10 BK280.out 0; have hcz95_1 := bcq_10 BK280.out 1; have hcz95_2 := bcq_10 BK280.out 2; have hfz95_0 := blk_frozen BK280.out 0; have hfz95_1 := blk_frozen BK280.out 1; have hfz95_2 := blk_frozen BK280.out 2) | ((with_reducible refine gate_callee (f := 18) rfl ?_); refine goesL_ (some 19) rfl rfl Tryd.func18 (by kernel_rfl) rfl #[.agg #[.string a0_0, .int .i64 a0_1, .slice A0_2 l0_2.length c0_2]] rfl zb5_10 ?_; (with_reducible refine (impl_DialbackRight.calls k a0_0 a0_1 _ _ l0_2 false _ ?side1 ?side2 A16.out zb15_10).mono ?_); (case side1 => repeat (first | exact (Kd.C_below HR0_2.out HB.out) | (with_reducible refine Kd.C_alloc ?_ _) | (with_reducible refine Kd.C_drewN ?_ _) | (with_reducible refine Kd.C_drew ?_))); (case side2 => exact HC0_2.out); rintro e w96 ⟨rfl, hb⟩; refine ⟨_, rfl, ?_⟩; have n0_ := Aside0.mk (Kd.R_below zb13_10 hb); have n1_ := Aside0.mk (blk_below (g := gb280) (o := .cells #[.string a0_0, .int .i64 a0_1, .slice A0_2 l0_2.length c0_2] 40 (0, 0)) zb6_10 hb); have n2_ := Aside0.mk (blk_below (g := gb281) (o := .cells #[.string (⟨#[]⟩ : ByteArray), .int .i64 0, .slice none 0 0, .int .i64 0, .int .i64 0] 51 (0, 0)) zb11_10 hb); have n3_ := Aside0.mk (below_step zb12_10 hb); clear HO285; clear BK280; clear BK281; clear HB; have HO285 := n0_; have BK280 := n1_; have BK281 := n2_; have HB := n3_; clear n0_ n1_ n2_ n3_; (try clear hb); (try clear hb2); (try clear hk); (try clear hi); have hcz97_0 := bcq_10 BK281.out 0; have hcz97_1 := bcq_10 BK281.out 1; have hcz97_2 := bcq_10 BK281.out 2; have hcz97_3 := bcq_10 BK281.out 3; have hcz97_4 := bcq_10 BK281.out 4; have hfz97_0 := blk_frozen BK281.out 0; have hfz97_1 := blk_frozen BK281.out 1; have hfz97_2 := blk_frozen BK281.out 2; have hfz97_3 := blk_frozen BK281.out 3; have hfz97_4 := blk_frozen BK281.out 4))
   refine bodyPost_ret (results_cell_row rfl _ _ gb281 51 #[.string (⟨#[]⟩ : ByteArray), .int .i64 0, .slice none 0 0, .int .i64 0, .int .i64 1] (0, 0) _ rfl zb14_10 Tryd.underlying51 rfl (by kernel_rfl)) rfl ?_
   exact ⟨_, by first | rfl | (simp [errW_none, errW_some] <;> rfl) | (simp [*, errW_none, errW_some] <;> rfl), by first | exact Kd.R_nil _ _ _ _ _ | exact Kd.N_nil _ _ _ _ _ | exact Kd.V_nil _ _ _ _ _ | exact Kd.Q_nil _ _ _ _ _ | exact Kd.S_nil _ _ _ _ _, by repeat (first | (with_reducible first | exact HB.out | apply below_alloc | apply pw_below_drewN | apply below_drew1 | refine below_set ?_ GE280.out | refine below_set ?_ GE281.out) | exact HB.out)⟩

end Go.Proofs.YtjchggdekbnmnaaDoor.QFnExactDbResult
