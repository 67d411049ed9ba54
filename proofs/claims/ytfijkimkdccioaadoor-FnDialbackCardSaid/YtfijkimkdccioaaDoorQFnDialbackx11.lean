-- laid by this session's own runner (wip/print2.py): not a printed file
import Derived.Test.YtfijkimkdccioaaDoorQFnDialbackx0
import Derived.Test.YtfijkimkdccioaaDoorQFnDialbackx9
import Derived.Test.YtfijkimkdccioaaDoorQFnDialbackx10
namespace Go.Proofs.YtfijkimkdccioaaDoor.QFnDialback
open Go.RowKit Go.Proofs.YtfijkimkdccioaaDoorW.PrintWords Go.Proofs.YtfijkimkdccioaaDoorW.PrintLast Go.Proofs.YtfijkimkdccioaaDoorW.PrintMore
attribute [local go_sem] max2_int min2_int max_two min_two max_three min_three max_four min_four   -- for this text's walks alone
set_option linter.unusedVariables false
set_option linter.unusedSimpArgs false

theorem bcq_11 {w : World} {g t : Nat} {cs : Array Value} {v : Value} (h : w.heap[g]? = some (.cells cs t (0, 0))) (j : Nat) (e : cs[j]? = some v := by rfl) : w.cell? ⟨g, j, none⟩ = some v := (blk_cell h j).trans e
theorem zb0_11 {P : Prop} (h : P := by rfl) : P := h
theorem zb1_11 {P : Prop} (h : P := by (with_reducible assumption)) : P := h
theorem zb2_11 {P : Prop} (h : P := by repeat ((with_reducible (exact HB.out)))) : P := h
theorem zb3_11 {P : Prop} (h : P := by rw [hg]; exact (below_size (by repeat ((with_reducible (exact HB.out)))))) : P := h
theorem zb4_11 {P : Prop} (h : P := by exact BK393.out) : P := h
theorem zb5_11 {P : Prop} (h : P := by repeat ((with_reducible (exact HB.out)))) : P := h
theorem zb6_11 {P : Prop} (h : P := by (try simp only [List.map_toArray, List.map_cons, List.map_nil]); rfl) : P := h
theorem zb7_11 {P : Prop} (h : P := by (with_reducible repeat ((refine blk_drewN ?_ _))); exact BK398.out) : P := h
theorem zb8_11 {P : Prop} (h : P := by repeat ((with_reducible (exact HB.out)))) : P := h
theorem zb9_11 {P : Prop} (h : P := by rw [hg]; exact (below_size (by repeat ((with_reducible (exact HB.out)))))) : P := h
theorem zb10_11 {P : Prop} (h : P := by rw [hg]; exact Nat.ne_of_lt (blk_lt (g := gb398) (o := .cells #[.string a0_0, .int .i64 a0_1, .slice A0_2 l0_2.length c0_2] 25 (0, 0)) (by exact BK398.out))) : P := h
theorem zb11_11 {P : Prop} (h : P := by rw [hg]; exact Nat.ne_of_gt (blk_lt (g := gb398) (o := .cells #[.string a0_0, .int .i64 a0_1, .slice A0_2 l0_2.length c0_2] 25 (0, 0)) (by exact BK398.out))) : P := h
theorem zb12_11 {P : Prop} (h : P := by repeat ((with_reducible first | exact HB.out | apply pw_below_drewN))) : P := h
theorem zb13_11 {P : Prop} (h : P := by (with_reducible repeat ((refine blk_drewN ?_ _))); exact BK399.out) : P := h
theorem zb14_11 {P : Prop} (h : P := by (with_reducible repeat ((apply Kd.R_drewN))); exact HO402.out) : P := h
theorem zb15_11 {P : Prop} (h : P := by apply bp5; exact BK399.out) : P := h
theorem zb16_11 {P : Prop} (h : P := by first | exact hmx.below HB.out | exact hmx.below (by repeat ((with_reducible first | exact HB.out | apply pw_below_drewN)))) : P := h
/-! ### impl_long: function 22 -/
def impl_long.l0 : Nat → List ByteArray → Int → Int → Option (Bool)
 | 0, _, _, _ => none
 | k + 1, x5, x6, x7 => if x7 < x6 then (if 0 ≤ x7 then (if x7 < (x5.length : Int) then (if ((rdOf ByteArray.empty x5 x7).size : Int) > 20000 then (some true) else (impl_long.l0 k x5 x6 (wrap64 (x7 + 1)))) else (none)) else (none)) else (some false)
def impl_long.f (k : Nat) (l0 : List ByteArray) : Option (Bool) := impl_long.l0 k l0 (l0.length : Int) 0
theorem impl_long.mono_l : ∀ k, (∀ y0 y1 y2, LeO (impl_long.l0 k y0 y1 y2) (impl_long.l0 (k + 1) y0 y1 y2))
 | 0 => fun _ _ _ r h => by simp [impl_long.l0] at h
 | k + 1 => by
  have ih0 := impl_long.mono_l k
  ·
   intro y0 y1 y2
   unfold impl_long.l0
   repeat' first
   | (with_reducible exact ih0 _ _ _)
   | (with_reducible exact LeO.refl _)
   | (with_reducible exact LeO.none _)
   | (with_reducible refine LeO.ite ?_ ?_)
   | (with_reducible refine LeO.bind ?_ (fun _ => ?_))
   | exact ih0 _ _ _
   | exact LeO.none _
   | refine LeO.ite ?_ ?_
   | refine LeO.bind ?_ (fun _ => ?_)
theorem impl_long.mono : ∀ a0 k, LeO (impl_long.f k a0) (impl_long.f (k + 1) a0) := by
 intro a0 k
 have ih0 := impl_long.mono_l k
 unfold impl_long.f
 repeat' first
   | (with_reducible exact ih0 _ _ _)
   | (with_reducible exact LeO.refl _)
   | (with_reducible exact LeO.none _)
   | (with_reducible refine LeO.ite ?_ ?_)
   | (with_reducible refine LeO.bind ?_ (fun _ => ?_))
   | exact ih0 _ _ _
   | exact LeO.none _
   | refine LeO.ite ?_ ?_
   | refine LeO.bind ?_ (fun _ => ?_)
set_option maxHeartbeats 8000000 in
set_option maxRecDepth 100000 in
theorem impl_long.calls (k : Nat) (A0 : Option Addr) (c0 : Nat) (l0 : List ByteArray) (r : Bool) (w : World) (hr0 : Kd.C Kd.string w A0 l0.length l0) (hc0 : l0.length ≤ c0) (h : impl_long.f k l0 = some r) :
  Calls Tryd.prog 22 #[.slice A0 l0.length c0] w fun e w' => e = .returned (.bool r) ∧ Drawn0 w w' := by
 have HR0 := Aside0.mk hr0
 have HC0 := Aside0.mk hc0
 clear hr0 hc0
 have H : (impl_long.l0 k l0 (l0.length : Int) 0) = some r := h
 clear h
 have H' := Aside0.mk H
 clear H
 go_enter Tryd.func22, Tryd.ntmps22
 go_wp2
 go_loopg [7] k (fun kq v7 w' => ∃ (x7_1 : Int), v7 = .int .i64 x7_1 ∧ Aside0 (impl_long.l0 kq l0 (l0.length : Int) x7_1 = some r) ∧ Aside0 (kq ≤ k) ∧ Drawn0 w w')
 case atStart => exact ⟨(0), zb0_11, H', ⟨Nat.le_refl _⟩, by repeat ((exact Drawn0.refl _))⟩
 case round =>
  clear H'
  obtain ⟨x7_1, rfl, HA, HK1, ⟨m1, rfl⟩⟩ := hrel
  cases gk with
  | zero => exact absurd HA.out (by simp [impl_long.l0])
  | succ k1 =>
   have H := HA.out
   clear HA
   simp only [impl_long.l0] at H
   by_cases c2 : x7_1 < (l0.length : Int)
   rotate_left
   · rw [if_neg c2] at H; have c2b0 := decide_eq_false c2; clear c2; obtain rfl := Option.some.inj H; go_wp2; go_ret; exact ⟨by rfl, by repeat (first | exact Drawn0.refl _ | apply Drawn0.step)⟩
   rw [if_pos c2] at H
   have c2b0 := decide_eq_true c2
   clear c2
   by_cases c3 : 0 ≤ x7_1
   rotate_left
   · rw [if_neg c3] at H; exact absurd H (by simp)
   rw [if_pos c3] at H
   have c3b0 := decide_eq_true c3
   clear c3
   by_cases c4 : x7_1 < (l0.length : Int)
   rotate_left
   · rw [if_neg c4] at H; exact absurd H (by simp)
   rw [if_pos c4] at H
   have c4b0 := decide_eq_true c4
   clear c4
   by_cases c5 : ((rdOf ByteArray.empty l0 x7_1).size : Int) > 20000
   ·
    rw [if_pos c5] at H
    have c5b0 : decide (20000 < ((rdOf ByteArray.empty l0 x7_1).size : Int)) = true := decide_eq_true c5
    have c5b1 : decide (20000 < (rdOf ByteArray.empty l0 x7_1).size) = true := decide_eq_true (by omega)
    clear c5
    obtain rfl := Option.some.inj H
    have p392 : 0 ≤ (x7_1 : Int) := of_decide_eq_true zb1_11
    have q392 : x7_1 < (l0.length : Int) := of_decide_eq_true zb1_11
    obtain ⟨ad392, e392, hx392_0⟩ := Kd.at_string HR0.out x7_1 p392 q392
    cases e392
    replace p392 := eq_true p392
    replace q392 := eq_true q392
    go_wp2
    go_ret
    exact ⟨by rfl, by repeat (first | exact Drawn0.refl _ | apply Drawn0.step)⟩
   rw [if_neg c5] at H
   have c5b0 : decide (20000 < ((rdOf ByteArray.empty l0 x7_1).size : Int)) = false := decide_eq_false c5
   have c5b1 : decide (20000 < (rdOf ByteArray.empty l0 x7_1).size) = false := decide_eq_false (by omega)
   clear c5
   have H' := Aside0.mk H
   clear H
   have p392 : 0 ≤ (x7_1 : Int) := of_decide_eq_true zb1_11
   have q392 : x7_1 < (l0.length : Int) := of_decide_eq_true zb1_11
   obtain ⟨ad392, e392, hx392_0⟩ := Kd.at_string HR0.out x7_1 p392 q392
   cases e392
   replace p392 := eq_true p392
   replace q392 := eq_true q392
   go_wp2
   go_roundg k1
   case measure => have := HK1.out; omega
   case rel => exact ⟨(wrap64 (x7_1 + 1)), zb0_11, H', ⟨by have := HK1.out; omega⟩, by repeat (first | exact Drawn0.refl _ | apply Drawn0.step)⟩
/-! ### impl_Peer: function 36: by hand ('== nil' of a slice of structs) -/
def impl_Peer.f (l0 : List (S43)) : Option (List (S43)) := if l0.length < 2932031007402 then some l0 else none
set_option maxRecDepth 100000 in
theorem impl_Peer.calls (A0 : Option Addr) (c0 : Nat) (l0 : List (S43)) (r : List (S43)) (w : World) (hr0 : Kd.C k43 w A0 l0.length l0) (hc0 : l0.length ≤ c0) (h : impl_Peer.f l0 = some r) :
  Calls Tryd.prog 36 #[.slice A0 l0.length c0] w fun e w' => ∃ v0_ : Value, e = .returned (v0_) ∧ Kd.R k43 43 w' w.heap.size (fun _ => True) v0_ r ∧ Below w.heap.size w w' := by
 unfold impl_Peer.f at h
 by_cases hlen : l0.length < 2932031007402
 rotate_left
 · rw [if_neg hlen] at h; exact absurd h (by simp)
 rw [if_pos hlen] at h
 obtain rfl := Option.some.inj h
 have HR := Aside0.mk hr0
 have HC := Aside0.mk hc0
 have LM := Aside0.mk hlen
 clear hr0 hc0 hlen h
 have q23 : ∀ (w : World) (a : Option Addr) (n c n' c' : Nat), (binOp .eql 23 (.slice a n c) (.slice none n' c')).run Tryd.prog w = .ok (.bool a.isNone) w := by
  have e23 : ∀ (d : Nat) (w : World) (a : Option Addr) (n c n' c' : Nat), (Op.equalIn (d + 1) 23 (.slice a n c) (.slice none n' c')).run Tryd.prog w = .ok a.isNone w := fun d w a n c n' c' => by cases a <;> simp [Op.equalIn, run_underlying Tryd.underlying23]
  intro w a n c n' c'
  simp only [binOp]
  simp [Op.equal, Op.maxDepth, e23 9999]
 obtain ⟨y1, hy1⟩ : ∃ y_ : List S43, y_ = [] := ⟨_, rfl⟩
 have NY := Aside0.mk hy1
 clear hy1
 go_enter Tryd.func36, Tryd.ntmps36
 cases A0 with
 | none =>
  go_wp2
  go_ret
  have h0 : l0 = [] := by
   have hx := HR.out.2.2
   cases l0 with
   | nil => rfl
   | cons x l =>
    obtain ⟨a, ha, _⟩ := hx (by simp)
    cases ha
  subst h0
  exact ⟨_, rfl, Kd.R_nil _ _ _ _ _, Below.refl _ _⟩
 | some ad =>
  go_wp2_with (first | ((with_reducible refine gate_dst (N := 5) rfl ?_); refine Kd.R_lit k43 _ 43 ?hg (N := 5) ?hd (xs := ([] : List (S43))) (inner := []) (ok := fun _ => True) (okp := fun _ => True) ?hr ?hp (fun _ hk => hk) trivial (Below.refl _ _) (Nat.le_refl _) (by simp) ?_; (case hd => rfl); (case hg => rfl); (case hr => (go_simp; done)); (case hp => exact (Reps.none _ _)); intro v1 w5 ho6 hb hg_ hnew_; clear hg_ hnew_; rw [← NY.out] at ho6; have HO := Aside0.mk ho6; have HB := Aside0.mk hb; clear hb ho6) | ((with_reducible refine gate_builtin (b := .append) (xs := #[.tmp 5, .tmp 6]) rfl ?_); at_builtin; refine Kd.R_append_rows k43 (w0 := w) w.heap.size rfl (.tmp 5) (.tmp 6) 23 43 (.agg #[(.string ⟨#[]⟩), (.int .i64 0), (.int .i64 0), (.string ⟨#[]⟩)]) 48 rfl Tryd.underlying23 info43 rfl (by decide) (by omega) v1 y1 l0 _ _ _ (fun _ => True) (fun _ => False) rfl rfl ?aO ?aR (fun _ _ h => h) (fun _ h => h.elim) ?aF ?aB ?aS ?aL ?_; (case aR => exact (Kd.C_below HR.out HB.out)); (case aB => exact HB.out); (case aF => exact (fun _ _ => trivial)); (case aO => exact HO.out); (case aS => exact (below_size HB.out)); (case aL => have := LM.out; rw [NY.out]; simp only [List.length_nil]; omega); intro v2 w9 ho hb hg hat; have HO2 := Aside0.mk ho; have HB2 := Aside0.mk hb; clear ho hb hg hat))
  go_ret
  refine ⟨_, rfl, ?_, HB2.out⟩
  have h2 := HO2.out
  rw [NY.out, List.nil_append] at h2
  exact Kd.R_mono h2 (fun _ _ => trivial)
/-! ### impl_cloneDialback: function 24 -/
def impl_cloneDialback.f (a0_0 : ByteArray) (a0_1 : Int) (l0_2 : List (S43)) : Option (ByteArray × Int × (List (S43))) := (impl_Peer.f l0_2).bind fun t395 => (some (a0_0, a0_1, t395))
set_option maxHeartbeats 8000000 in
set_option maxRecDepth 100000 in
theorem impl_cloneDialback.calls (a0_0 : ByteArray) (a0_1 : Int) (A0_2 : Option Addr) (c0_2 : Nat) (l0_2 : List (S43)) (r1 : ByteArray) (r2 : Int) (r3 : List (S43)) (w : World) (hr0_2 : Kd.C k43 w A0_2 l0_2.length l0_2) (hc0_2 : l0_2.length ≤ c0_2) (h : impl_cloneDialback.f a0_0 a0_1 l0_2 = some (r1, r2, r3)) :
  Calls Tryd.prog 24 #[.agg #[.string a0_0, .int .i64 a0_1, .slice A0_2 l0_2.length c0_2]] w fun e w' => ∃ v2_ : Value, e = .returned (.agg #[.string r1, .int .i64 r2, v2_]) ∧ Kd.R k43 43 w' w.heap.size (fun _ => True) v2_ r3 ∧ Below w.heap.size w w' := by
 have hu25 := Tryd.underlying25
 have HR0_2 := Aside0.mk hr0_2
 have HC0_2 := Aside0.mk hc0_2
 clear hr0_2 hc0_2
 have HB := Aside0.mk (Below.refl w.heap.size w)
 have H : ((impl_Peer.f l0_2).bind fun t395 => (some (a0_0, a0_1, t395))) = some (r1, r2, r3) := h
 clear h
 replace H := Option.bind_eq_some_iff.mp H
 obtain ⟨t395, A20, H⟩ := H
 (try dsimp -simprocs only at H)
 have A2 := Aside0.mk A20
 clear A20
 simp only [Option.some.injEq, Prod.mk.injEq] at H
 obtain ⟨rfl, rfl, rfl⟩ := H
 go_enter Tryd.func24, Tryd.ntmps24
 go_wp2_with (first | ((with_reducible refine gate_dst (N := 1) rfl ?_); refine box_event ?hg (N := 1) ?hd (cs := #[.string a0_0, .int .i64 a0_1, .slice A0_2 l0_2.length c0_2]) (t := 25) ?hr ?_; (case hd => rfl); (case hg => rfl); (case hr => (go_simp; done)); intro gb393 hg w3 hbox hb; have BK393 := Aside0.mk (hbox); have GW393 := Aside0.mk ((zb3_11 : w.heap.size ≤ gb393)); have GE393 := GW393; replace HB := Aside0.mk (below_step zb2_11 hb); clear hb hbox hg) | ((with_reducible refine gate_dst (N := 2) rfl ?_); refine box_event ?hg (N := 2) ?hd (cs := #[.string (⟨#[]⟩ : ByteArray), .int .i64 0, .slice none 0 0]) (t := 25) ?hr ?_; (case hd => rfl); (case hg => rfl); (case hr => (go_simp; done)); intro gb394 hg w4 hbox hb; have BK394 := Aside0.mk (hbox); have GW394 := Aside0.mk ((by rw [hg]; exact (below_size zb5_11) : w.heap.size ≤ gb394)); have GE394 := Aside0.mk ((by rw [hg]; exact (below_size zb5_11) : w.heap.size ≤ gb394)); replace HB := Aside0.mk (below_step zb5_11 hb); have NB393_394 := Aside0.mk ((by rw [hg]; exact Nat.ne_of_lt (blk_lt (g := gb393) (o := .cells #[.string a0_0, .int .i64 a0_1, .slice A0_2 l0_2.length c0_2] 25 (0, 0)) zb4_11) : gb393 ≠ gb394)); have NB394_393 := Aside0.mk ((by rw [hg]; exact Nat.ne_of_gt (blk_lt (g := gb393) (o := .cells #[.string a0_0, .int .i64 a0_1, .slice A0_2 l0_2.length c0_2] 25 (0, 0)) zb4_11) : gb394 ≠ gb393)); replace BK393 := bkb BK393 hb; clear hb hbox hg; have hnb5 := NB393_394.out; have hnc5 := NB394_393.out; obtain ⟨z0, z1, z2, z3, z4, z5⟩ := bz3 BK393.out) | ((with_reducible refine gate_callee (f := 36) rfl ?_); refine goesL_ (some 5) rfl rfl Tryd.func36 (by kernel_rfl) rfl #[.slice A0_2 l0_2.length c0_2] rfl zb6_11 ?_; (with_reducible refine (impl_Peer.calls _ _ l0_2 t395 _ ?side1 ?side2 A2.out).mono ?_); (case side1 => repeat ((exact (Kd.C_below HR0_2.out HB.out)))); (case side2 => exact HC0_2.out); rintro e w7 ⟨v396, rfl, ho0, hb⟩; refine ⟨_, rfl, ?_⟩; have HO397 := Aside0.mk (Kd.R_lower ho0 (below_size (by repeat ((with_reducible (exact HB.out)))))); replace BK393 := bkb BK393 hb; replace BK394 := bkb BK394 hb; replace HB := Aside0.mk (below_step (by repeat ((with_reducible (exact HB.out)))) hb); (try clear hb); (try clear ho0); obtain ⟨Ao8, co8, eo8⟩ := Kd.R_slice HO397.out; subst eo8; obtain ⟨z0, z1, z2, z3, z4, z5⟩ := bz3 BK393.out; obtain ⟨z0, z1, z2, z3, z4, z5⟩ := bz3 BK394.out))
 refine bodyPost_ret (results_cell_row rfl _ _ gb394 25 #[.string a0_0, .int .i64 a0_1, .slice Ao8 t395.length co8] (0, 0) _ rfl (by apply bp3; refine blk_far ?_ NB394_393.out _; exact BK394.out) Tryd.underlying25 rfl (by kernel_rfl)) rfl ?_
 exact ⟨_, by rfl, by exact Kd.R_mono (rfa (rfa (rfa (rfa (Kd.R_types (Kd.R_types HO397.out BK393.out (by decide)) BK394.out (by decide)) (fun _ hk => hk.1.2)) (fun _ h => h.2)) (fun _ h => h.2)) (fun _ h => h.2)) (fun _ hk => trivial), by repeat ((with_reducible first | exact HB.out | refine below_set ?_ GE393.out | refine below_set ?_ GE394.out))⟩
/-! ### impl_DbOpen: function 5 -/
def impl_DbOpen.j0 : Nat → ByteArray → Bool → ByteArray → Int → List (S43) → Option (ByteArray × Int × (List (S43)) × Int × Int)
 | 0, _, _, _, _, _ => none
 | k + 1, x1, x11, x399000, x399001, x399002 => if x11 = true then (some ((⟨#[]⟩ : ByteArray), 0, ([] : List (S43)), 0, 1)) else (if (x399002.length : Int) = 10 then (some ((⟨#[]⟩ : ByteArray), 0, ([] : List (S43)), 0, 9)) else (if x399001 = 1000000000 then (some ((⟨#[]⟩ : ByteArray), 0, ([] : List (S43)), 0, 9)) else ((impl_cloneDialback.f x399000 x399001 x399002).bind fun bt406 => (if bt406.2.2.length < 2932031007402 then (some (bt406.1, wrap64 (bt406.2.1 + 1), (bt406.2.2 ++ [(⟨x1, x399001, 0, (⟨#[]⟩ : ByteArray)⟩ : S43)]), x399001, 0)) else (none)))))
def impl_DbOpen.f (k : Nat) (a0_0 : ByteArray) (a0_1 : Int) (l0_2 : List (S43)) (a1 : ByteArray) : Option (ByteArray × Int × (List (S43)) × Int × Int) := (impl_long.f k (([a1] : List ByteArray))).bind fun t403 => (if t403 = true then (some ((⟨#[]⟩ : ByteArray), 0, ([] : List (S43)), 0, 2)) else ((impl_DialbackRight.f k a0_0 a0_1 l0_2).bind fun t404 => (if t404 = true then ((impl_isDomain.f k a1).bind fun t405 => (impl_DbOpen.j0 k a1 (!t405) a0_0 a0_1 l0_2)) else (impl_DbOpen.j0 k a1 true a0_0 a0_1 l0_2))))
theorem impl_DbOpen.mono_l : ∀ k, (∀ y0 y1 y2 y3 y4, LeO (impl_DbOpen.j0 k y0 y1 y2 y3 y4) (impl_DbOpen.j0 (k + 1) y0 y1 y2 y3 y4))
 | 0 => fun _ _ _ _ _ r h => by simp [impl_DbOpen.j0] at h
 | k + 1 => by
  have ih0 := impl_DbOpen.mono_l k
  ·
   intro y0 y1 y2 y3 y4
   unfold impl_DbOpen.j0
   repeat' first
   | (with_reducible exact ih0 _ _ _ _ _)
   | (with_reducible exact impl_DialbackRight.mono _ _ _ _)
   | (with_reducible exact impl_isDomain.mono _ _)
   | (with_reducible exact impl_long.mono _ _)
   | (with_reducible exact LeO.refl _)
   | (with_reducible exact LeO.none _)
   | (with_reducible refine LeO.ite ?_ ?_)
   | (with_reducible refine LeO.bind ?_ (fun _ => ?_))
   | exact ih0 _ _ _ _ _
   | exact impl_DialbackRight.mono _ _ _ _
   | exact impl_isDomain.mono _ _
   | exact impl_long.mono _ _
   | exact LeO.none _
   | refine LeO.ite ?_ ?_
   | refine LeO.bind ?_ (fun _ => ?_)
theorem impl_DbOpen.mono : ∀ a0 a1 a2 a3 k, LeO (impl_DbOpen.f k a0 a1 a2 a3) (impl_DbOpen.f (k + 1) a0 a1 a2 a3) := by
 intro a0 a1 a2 a3 k
 have ih0 := impl_DbOpen.mono_l k
 unfold impl_DbOpen.f
 repeat' first
   | (with_reducible exact ih0 _ _ _ _ _)
   | (with_reducible exact impl_DialbackRight.mono _ _ _ _)
   | (with_reducible exact impl_isDomain.mono _ _)
   | (with_reducible exact impl_long.mono _ _)
   | (with_reducible exact LeO.refl _)
   | (with_reducible exact LeO.none _)
   | (with_reducible refine LeO.ite ?_ ?_)
   | (with_reducible refine LeO.bind ?_ (fun _ => ?_))
   | exact ih0 _ _ _ _ _
   | exact impl_DialbackRight.mono _ _ _ _
   | exact impl_isDomain.mono _ _
   | exact impl_long.mono _ _
   | exact LeO.none _
   | refine LeO.ite ?_ ?_
   | refine LeO.bind ?_ (fun _ => ?_)
set_option maxHeartbeats 8000000 in
set_option maxRecDepth 100000 in
theorem impl_DbOpen.calls (k : Nat) (a0_0 : ByteArray) (a0_1 : Int) (A0_2 : Option Addr) (c0_2 : Nat) (l0_2 : List (S43)) (a1 : ByteArray) (r1 : ByteArray) (r2 : Int) (r3 : List (S43)) (r4 : Int) (r5 : Int) (w : World) (hr0_2 : Kd.C k43 w A0_2 l0_2.length l0_2) (hc0_2 : l0_2.length ≤ c0_2) (h : impl_DbOpen.f k a0_0 a0_1 l0_2 a1 = some (r1, r2, r3, r4, r5)) (hmx : MaxIs w) :
  Calls Tryd.prog 5 #[.agg #[.string a0_0, .int .i64 a0_1, .slice A0_2 l0_2.length c0_2], .string a1] w fun e w' => ∃ v2_ : Value, e = .returned (.agg #[.string r1, .int .i64 r2, v2_, .int .i64 r4, .int .i64 r5]) ∧ Kd.R k43 43 w' w.heap.size (fun _ => True) v2_ r3 ∧ Below w.heap.size w w' := by
 have hu25 := Tryd.underlying25
 have hu29 := Tryd.underlying29
 have hu43 := Tryd.underlying43
 have HR0_2 := Aside0.mk hr0_2
 have HC0_2 := Aside0.mk hc0_2
 clear hr0_2 hc0_2
 have HB := Aside0.mk (Below.refl w.heap.size w)
 have H : ((impl_long.f k (([a1] : List ByteArray))).bind fun t403 => (if t403 = true then (some ((⟨#[]⟩ : ByteArray), 0, ([] : List (S43)), 0, 2)) else ((impl_DialbackRight.f k a0_0 a0_1 l0_2).bind fun t404 => (if t404 = true then ((impl_isDomain.f k a1).bind fun t405 => (impl_DbOpen.j0 k a1 (!t405) a0_0 a0_1 l0_2)) else (impl_DbOpen.j0 k a1 true a0_0 a0_1 l0_2))))) = some (r1, r2, r3, r4, r5) := h
 clear h
 obtain ⟨y400, hy400⟩ : ∃ y_ : List ByteArray, y_ = (([a1] : List ByteArray)) := ⟨_, rfl⟩
 replace H : ((impl_long.f k y400).bind fun t403 => (if t403 = true then (some ((⟨#[]⟩ : ByteArray), 0, ([] : List (S43)), 0, 2)) else ((impl_DialbackRight.f k a0_0 a0_1 l0_2).bind fun t404 => (if t404 = true then ((impl_isDomain.f k a1).bind fun t405 => (impl_DbOpen.j0 k a1 (!t405) a0_0 a0_1 l0_2)) else (impl_DbOpen.j0 k a1 true a0_0 a0_1 l0_2))))) = some (r1, r2, r3, r4, r5) := by (rw [hy400]; with_reducible exact H)
 have Ny400 := Aside0.mk hy400
 clear hy400
 replace H := Option.bind_eq_some_iff.mp H
 obtain ⟨t403, A30, H⟩ := H
 (try dsimp -simprocs only at H)
 have A3 := Aside0.mk A30
 clear A30
 by_cases c4 : t403 = true
 ·
  subst c4
  rw [if_pos rfl] at H
  simp only [Option.some.injEq, Prod.mk.injEq] at H
  obtain ⟨rfl, rfl, rfl, rfl, rfl⟩ := H
  go_enter Tryd.func5, Tryd.ntmps5
  go_wp2_with (first | ((with_reducible refine gate_dst (N := 2) rfl ?_); refine box_event ?hg (N := 2) ?hd (cs := #[.string a0_0, .int .i64 a0_1, .slice A0_2 l0_2.length c0_2]) (t := 25) ?hr ?_; (case hd => rfl); (case hg => rfl); (case hr => (go_simp; done)); intro gb398 hg w5 hbox hb; have BK398 := Aside0.mk (hbox); have GW398 := Aside0.mk ((zb3_11 : w.heap.size ≤ gb398)); have GE398 := GW398; replace HB := Aside0.mk (below_step zb2_11 hb); clear hb hbox hg) | ((with_reducible refine gate_dst (N := 4) rfl ?_); refine box_event ?hg (N := 4) ?hd (cs := #[.string (⟨#[]⟩ : ByteArray), .int .i64 0, .slice none 0 0, .int .i64 0, .int .i64 0]) (t := 29) ?hr ?_; (case hd => rfl); (case hg => rfl); (case hr => (go_simp; done)); intro gb399 hg w6 hbox hb; have BK399 := Aside0.mk (hbox); have GW399 := Aside0.mk ((zb9_11 : w.heap.size ≤ gb399)); have GE399 := GW399; replace HB := Aside0.mk (below_step zb8_11 hb); have NB398_399 := Aside0.mk ((zb10_11 : gb398 ≠ gb399)); have NB399_398 := Aside0.mk ((zb11_11 : gb399 ≠ gb398)); replace BK398 := bkb BK398 hb; clear hb hbox hg) | ((with_reducible refine gate_dst (N := 8) rfl ?_); refine Kd.R_lit Kd.string _ 9 ?hg (N := 8) ?hd (xs := ([a1] : List ByteArray)) (inner := [.string a1]) (ok := fun _ => True) (okp := fun _ => True) ?hr ?hp (fun _ hk => hk) trivial (Below.refl _ _) (Nat.le_refl _) (by simp) ?_; (case hd => rfl); (case hg => rfl); (case hr => (go_simp; done)); (case hp => exact (Reps.one (show Kd.M Kd.string _ _ _ a1 [.string a1] from rfl) (Reps.none _ _))); intro v401 w7 ho8 hb hg_ hnew_; clear hg_ hnew_; ((rw [← Ny400.out] at ho8)); have HO402 := Aside0.mk (Kd.R_lower ho8 (below_size zb12_11)); replace BK398 := bkb BK398 hb; replace BK399 := bkb BK399 hb; replace HB := Aside0.mk (below_step zb12_11 hb); clear hb ho8; obtain ⟨Ao9, co9, eo9⟩ := Kd.R_slice HO402.out; subst eo9) | ((with_reducible refine gate_callee (f := 22) rfl ?_); refine goesL_ (some 9) rfl rfl Tryd.func22 (by kernel_rfl) rfl #[.slice Ao9 y400.length co9] rfl zb6_11 ?_; (with_reducible refine (impl_long.calls k _ _ y400 true _ ?side1 ?side2 A3.out).mono ?_); (case side1 => repeat ((exact (Kd.R_reads' HO402.out).2.2))); (case side2 => exact (Kd.R_reads' HO402.out).2.1); rintro e w' ⟨rfl, ⟨nd, rfl⟩⟩; refine ⟨_, rfl, ?_⟩; (try (rw [drewN_self w7]; generalize hq_ : World.drewN w7 _ = w7; have n0_ : Aside0 (Kd.R Kd.string 9 w7 w.heap.size (fun _ => True) (.slice Ao9 y400.length co9) y400) := ⟨by rw [← hq_]; exact zb14_11⟩; have n1_ : Aside0 (w7.heap[gb398]? = some (.cells #[.string a0_0, .int .i64 a0_1, .slice A0_2 l0_2.length c0_2] 25 (0, 0))) := ⟨by rw [← hq_]; exact zb7_11⟩; have n2_ : Aside0 (w7.heap[gb399]? = some (.cells #[.string (⟨#[]⟩ : ByteArray), .int .i64 0, .slice none 0 0, .int .i64 0, .int .i64 0] 29 (0, 0))) := ⟨by rw [← hq_]; exact zb13_11⟩; have n3_ : Aside0 (Below w.heap.size w w7) := ⟨by rw [← hq_]; exact zb12_11⟩; clear HO402 BK398 BK399 HB hq_; have HO402 := n0_; have BK398 := n1_; have BK399 := n2_; have HB := n3_; clear n0_ n1_ n2_ n3_)); have hnb10 := NB399_398.out; have hnc10 := NB398_399.out; obtain ⟨z0, z1, z2, z3, z4, z5, z6, z7, z8, z9⟩ := bz5 BK399.out))
  refine bodyPost_ret (results_cell_row rfl _ _ gb399 29 #[.string (⟨#[]⟩ : ByteArray), .int .i64 0, .slice none 0 0, .int .i64 0, .int .i64 2] (0, 0) _ rfl zb15_11 Tryd.underlying29 rfl (by kernel_rfl)) rfl ?_
  exact ⟨_, by rfl, by (exact Kd.R_nil _ _ _ _ _), by repeat ((with_reducible first | exact HB.out | refine below_set ?_ GE399.out))⟩
 replace c4 := Bool.eq_false_iff.mpr c4
 subst c4
 rw [if_neg (show ¬ (false = true) by decide)] at H
 have HC12 := Aside0.mk H
 clear H
 go_enter Tryd.func5, Tryd.ntmps5
 go_upto_region 3 with (first | ((with_reducible refine gate_dst (N := 2) rfl ?_); refine box_event ?hg (N := 2) ?hd (cs := #[.string a0_0, .int .i64 a0_1, .slice A0_2 l0_2.length c0_2]) (t := 25) ?hr ?_; (case hd => rfl); (case hg => rfl); (case hr => (go_simp; done)); intro gb398 hg w13 hbox hb; have BK398 := Aside0.mk (hbox); have GW398 := Aside0.mk ((zb3_11 : w.heap.size ≤ gb398)); have GE398 := GW398; replace HB := Aside0.mk (below_step zb2_11 hb); clear hb hbox hg) | ((with_reducible refine gate_dst (N := 4) rfl ?_); refine box_event ?hg (N := 4) ?hd (cs := #[.string (⟨#[]⟩ : ByteArray), .int .i64 0, .slice none 0 0, .int .i64 0, .int .i64 0]) (t := 29) ?hr ?_; (case hd => rfl); (case hg => rfl); (case hr => (go_simp; done)); intro gb399 hg w14 hbox hb; have BK399 := Aside0.mk (hbox); have GW399 := Aside0.mk ((zb9_11 : w.heap.size ≤ gb399)); have GE399 := GW399; replace HB := Aside0.mk (below_step zb8_11 hb); have NB398_399 := Aside0.mk ((zb10_11 : gb398 ≠ gb399)); have NB399_398 := Aside0.mk ((zb11_11 : gb399 ≠ gb398)); replace BK398 := bkb BK398 hb; clear hb hbox hg) | ((with_reducible refine gate_dst (N := 8) rfl ?_); refine Kd.R_lit Kd.string _ 9 ?hg (N := 8) ?hd (xs := ([a1] : List ByteArray)) (inner := [.string a1]) (ok := fun _ => True) (okp := fun _ => True) ?hr ?hp (fun _ hk => hk) trivial (Below.refl _ _) (Nat.le_refl _) (by simp) ?_; (case hd => rfl); (case hg => rfl); (case hr => (go_simp; done)); (case hp => exact (Reps.one (show Kd.M Kd.string _ _ _ a1 [.string a1] from rfl) (Reps.none _ _))); intro v401 w15 ho16 hb hg_ hnew_; clear hg_ hnew_; ((rw [← Ny400.out] at ho16)); have HO402 := Aside0.mk (Kd.R_lower ho16 (below_size zb12_11)); replace BK398 := bkb BK398 hb; replace BK399 := bkb BK399 hb; replace HB := Aside0.mk (below_step zb12_11 hb); clear hb ho16; obtain ⟨Ao17, co17, eo17⟩ := Kd.R_slice HO402.out; subst eo17) | ((with_reducible refine gate_callee (f := 22) rfl ?_); refine goesL_ (some 9) rfl rfl Tryd.func22 (by kernel_rfl) rfl #[.slice Ao17 y400.length co17] rfl zb6_11 ?_; (with_reducible refine (impl_long.calls k _ _ y400 false _ ?side1 ?side2 A3.out).mono ?_); (case side1 => repeat ((exact (Kd.R_reads' HO402.out).2.2))); (case side2 => exact (Kd.R_reads' HO402.out).2.1); rintro e w' ⟨rfl, ⟨nd, rfl⟩⟩; refine ⟨_, rfl, ?_⟩))
 go_cut [11] (fun v11 wc => ∃ (kq : Nat) (x11_11 : Bool), v11 = .bool x11_11 ∧ Aside0 (impl_DbOpen.j0 kq a1 x11_11 a0_0 a0_1 l0_2 = some (r1, r2, r3, r4, r5)) ∧ Aside0 (kq ≤ k) ∧ Aside0 (wc.heap[gb398]? = some (.cells #[.string a0_0, .int .i64 a0_1, (.slice A0_2 l0_2.length c0_2)] 25 (0, 0))) ∧ Aside0 (wc.heap[gb399]? = some (.cells #[.string (⟨#[]⟩ : ByteArray), .int .i64 0, (.slice none 0 0), .int .i64 0, .int .i64 0] 29 (0, 0))) ∧ Aside0 (Below w.heap.size w wc))
 case first =>
  have H := HC12.out
  clear HC12
  replace H := Option.bind_eq_some_iff.mp H
  obtain ⟨t404, A180, H⟩ := H
  (try dsimp -simprocs only at H)
  have A18 := Aside0.mk A180
  clear A180
  by_cases c19 : t404 = true
  rotate_left
  ·
   replace c19 := Bool.eq_false_iff.mpr c19
   subst c19
   rw [if_neg (show ¬ (false = true) by decide)] at H
   have H' := Aside0.mk H
   clear H
   have hnb25 := NB398_399.out
   have hnc25 := NB399_398.out
   obtain ⟨z0, z1, z2, z3, z4, z5⟩ := bz3 BK398.out
   go_wp2_with (((with_reducible refine gate_callee (f := 18) rfl ?_); refine goesL_ (some 13) rfl rfl Tryd.func18 (by kernel_rfl) rfl #[.agg #[.string a0_0, .int .i64 a0_1, .slice A0_2 l0_2.length c0_2]] rfl zb6_11 ?_; (with_reducible refine (impl_DialbackRight.calls k a0_0 a0_1 _ _ l0_2 false _ ?side1 ?side2 A18.out zb16_11).mono ?_); (case side1 => repeat (first | exact (Kd.C_below HR0_2.out HB.out) | (with_reducible refine Kd.C_drewN ?_ _))); (case side2 => exact HC0_2.out); rintro e w27 ⟨rfl, hb⟩; refine ⟨_, rfl, ?_⟩; replace BK398 := bkb BK398 hb; replace BK399 := bkb BK399 hb; replace HB := Aside0.mk (below_step zb12_11 hb); (try clear hb)))
   go_meet
   case rel => exact ⟨_, (true), zb0_11, H', ⟨by omega⟩, ⟨by exact BK398.out⟩, ⟨by exact BK399.out⟩, ⟨by repeat ((with_reducible (exact HB.out)))⟩⟩
  subst c19
  rw [if_pos rfl] at H
  replace H := Option.bind_eq_some_iff.mp H
  obtain ⟨t405, A200, H⟩ := H
  (try dsimp -simprocs only at H)
  have A20 := Aside0.mk A200
  clear A200
  have H' := Aside0.mk H
  clear H
  have hnb21 := NB398_399.out
  have hnc21 := NB399_398.out
  obtain ⟨z0, z1, z2, z3, z4, z5⟩ := bz3 BK398.out
  go_wp2_with (first | ((with_reducible refine gate_callee (f := 18) rfl ?_); refine goesL_ (some 13) rfl rfl Tryd.func18 (by kernel_rfl) rfl #[.agg #[.string a0_0, .int .i64 a0_1, .slice A0_2 l0_2.length c0_2]] rfl zb6_11 ?_; (with_reducible refine (impl_DialbackRight.calls k a0_0 a0_1 _ _ l0_2 true _ ?side1 ?side2 A18.out zb16_11).mono ?_); (case side1 => repeat (first | exact (Kd.C_below HR0_2.out HB.out) | (with_reducible refine Kd.C_drewN ?_ _))); (case side2 => exact HC0_2.out); rintro e w23 ⟨rfl, hb⟩; refine ⟨_, rfl, ?_⟩; replace BK398 := bkb BK398 hb; replace BK399 := bkb BK399 hb; replace HB := Aside0.mk (below_step zb12_11 hb); (try clear hb)) | (go_at_call 23; (with_reducible refine (impl_isDomain.calls k a1 t405 _ A20.out zb16_11).mono ?_); rintro e w24 ⟨rfl, hb⟩; replace BK398 := bkb BK398 hb; replace BK399 := bkb BK399 hb; replace HB := Aside0.mk (below_step zb12_11 hb); (try clear hb)))
  go_meet
  case rel => exact ⟨_, (!t405), zb0_11, H', ⟨by omega⟩, ⟨by exact BK398.out⟩, ⟨by exact BK399.out⟩, ⟨by repeat ((with_reducible (exact HB.out)))⟩⟩
 case rest =>
  clear HC12
  obtain ⟨kq, x11_11, rfl, HA, HJ11, BK398, BK399, HB⟩ := hcut
  cases kq with
  | zero => exact absurd HA.out (by simp [impl_DbOpen.j0])
  | succ kj11 =>
   have H := HA.out
   clear HA
   simp only [impl_DbOpen.j0] at H
   by_cases c28 : x11_11 = true
   ·
    subst c28
    rw [if_pos rfl] at H
    simp only [Option.some.injEq, Prod.mk.injEq] at H
    obtain ⟨rfl, rfl, rfl, rfl, rfl⟩ := H
    have hnb29 := NB399_398.out
    have hnc29 := NB398_399.out
    obtain ⟨z0, z1, z2, z3, z4, z5, z6, z7, z8, z9⟩ := bz5 BK399.out
    go_wp2
    refine bodyPost_ret (results_cell_row rfl _ _ gb399 29 #[.string (⟨#[]⟩ : ByteArray), .int .i64 0, .slice none 0 0, .int .i64 0, .int .i64 1] (0, 0) _ rfl zb15_11 Tryd.underlying29 rfl (by kernel_rfl)) rfl ?_
    exact ⟨_, by rfl, by (exact Kd.R_nil _ _ _ _ _), by repeat ((with_reducible first | exact HB.out | refine below_set ?_ GE399.out))⟩
   replace c28 := Bool.eq_false_iff.mpr c28
   subst c28
   rw [if_neg (show ¬ (false = true) by decide)] at H
   by_cases c31 : (l0_2.length : Int) = 10
   ·
    rw [if_pos c31] at H
    have c31b0 : ((l0_2.length : Int) == 10) = true := beq_iff_eq.mpr c31
    have c31b1 : ((l0_2.length : Int) != 10) = false := bne_eq_false_iff_eq.mpr c31
    clear c31
    simp only [Option.some.injEq, Prod.mk.injEq] at H
    obtain ⟨rfl, rfl, rfl, rfl, rfl⟩ := H
    have hnb32 := NB398_399.out
    have hnc32 := NB399_398.out
    obtain ⟨z0, z1, z2, z3, z4, z5⟩ := bz3 BK398.out
    obtain ⟨z0, z1, z2, z3, z4, z5, z6, z7, z8, z9⟩ := bz5 BK399.out
    go_wp2
    refine bodyPost_ret (results_cell_row rfl _ _ gb399 29 #[.string (⟨#[]⟩ : ByteArray), .int .i64 0, .slice none 0 0, .int .i64 0, .int .i64 9] (0, 0) _ rfl zb15_11 Tryd.underlying29 rfl (by kernel_rfl)) rfl ?_
    exact ⟨_, by rfl, by (exact Kd.R_nil _ _ _ _ _), by repeat ((with_reducible first | exact HB.out | refine below_set ?_ GE399.out))⟩
   rw [if_neg c31] at H
   have c31b0 : ((l0_2.length : Int) == 10) = false := beq_eq_false_iff_ne.mpr c31
   have c31b1 : ((l0_2.length : Int) != 10) = true := bne_iff_ne.mpr c31
   by_cases c35 : a0_1 = 1000000000
   ·
    rw [if_pos c35] at H
    have c35b0 : (a0_1 == 1000000000) = true := beq_iff_eq.mpr c35
    have c35b1 : (a0_1 != 1000000000) = false := bne_eq_false_iff_eq.mpr c35
    clear c35
    simp only [Option.some.injEq, Prod.mk.injEq] at H
    obtain ⟨rfl, rfl, rfl, rfl, rfl⟩ := H
    have hnb36 := NB398_399.out
    have hnc36 := NB399_398.out
    obtain ⟨z0, z1, z2, z3, z4, z5⟩ := bz3 BK398.out
    obtain ⟨z0, z1, z2, z3, z4, z5, z6, z7, z8, z9⟩ := bz5 BK399.out
    go_wp2
    refine bodyPost_ret (results_cell_row rfl _ _ gb399 29 #[.string (⟨#[]⟩ : ByteArray), .int .i64 0, .slice none 0 0, .int .i64 0, .int .i64 9] (0, 0) _ rfl zb15_11 Tryd.underlying29 rfl (by kernel_rfl)) rfl ?_
    exact ⟨_, by rfl, by (exact Kd.R_nil _ _ _ _ _), by repeat ((with_reducible first | exact HB.out | refine below_set ?_ GE399.out))⟩
   rw [if_neg c35] at H
   have c35b0 : (a0_1 == 1000000000) = false := beq_eq_false_iff_ne.mpr c35
   have c35b1 : (a0_1 != 1000000000) = true := bne_iff_ne.mpr c35
   replace H := Option.bind_eq_some_iff.mp H
   obtain ⟨⟨t406, t407, t408⟩, A390, H⟩ := H
   (try dsimp -simprocs only at H)
   have A39 := Aside0.mk A390
   clear A390
   by_cases c40 : t408.length < 2932031007402
   rotate_left
   · rw [if_neg c40] at H; exact absurd H (by simp)
   rw [if_pos c40] at H
   have LMc40 := Aside0.mk c40
   clear c40
   obtain ⟨y412, hy412⟩ : ∃ y_ : List (S43), y_ = (t408 ++ [(⟨a1, a0_1, 0, (⟨#[]⟩ : ByteArray)⟩ : S43)]) := ⟨_, rfl⟩
   replace H : (some (t406, wrap64 (t407 + 1), y412, a0_1, 0)) = some (r1, r2, r3, r4, r5) := by (rw [hy412]; with_reducible exact H)
   have Ny412 := Aside0.mk hy412
   clear hy412
   simp only [Option.some.injEq, Prod.mk.injEq] at H
   obtain ⟨rfl, rfl, rfl, rfl, rfl⟩ := H
   have hnb41 := NB398_399.out
   have hnc41 := NB399_398.out
   obtain ⟨z0, z1, z2, z3, z4, z5⟩ := bz3 BK398.out
   go_wp2_with (first | ((with_reducible refine gate_callee (f := 24) rfl ?_); refine goesL_ (some 33) rfl rfl Tryd.func24 (by kernel_rfl) rfl #[.agg #[.string a0_0, .int .i64 a0_1, .slice A0_2 l0_2.length c0_2]] rfl zb6_11 ?_; (with_reducible refine (impl_cloneDialback.calls a0_0 a0_1 _ _ l0_2 t406 t407 t408 _ ?side1 ?side2 A39.out).mono ?_); (case side1 => repeat ((exact (Kd.C_below HR0_2.out HB.out)))); (case side2 => exact HC0_2.out); rintro e w43 ⟨v409, rfl, ho0, hb⟩; refine ⟨_, rfl, ?_⟩; have HO410 := Aside0.mk (Kd.R_lower ho0 (below_size zb12_11)); replace BK398 := bkb BK398 hb; replace BK399 := bkb BK399 hb; replace HB := Aside0.mk (below_step zb12_11 hb); (try clear hb); (try clear ho0)) | ((with_reducible refine gate_dst (N := 5) rfl ?_); refine box_event ?hg (N := 5) ?hd (cs := #[.string (⟨#[]⟩ : ByteArray), .int .i64 0, .slice none 0 0]) (t := 25) ?hr ?_; (case hd => rfl); (case hg => rfl); (case hr => (go_simp; done)); intro gb411 hg w44 hbox hb; replace HO410 := Aside0.mk (Kd.R_below (by exact HO410.out) hb); have BK411 := Aside0.mk (hbox); have GW411 := Aside0.mk ((by rw [hg]; exact (below_size zb12_11) : w.heap.size ≤ gb411)); have GE411 := Aside0.mk ((by rw [hg]; exact (below_size zb12_11) : w.heap.size ≤ gb411)); replace HB := Aside0.mk (below_step zb12_11 hb); have NB398_411 := Aside0.mk ((zb10_11 : gb398 ≠ gb411)); have NB411_398 := Aside0.mk ((zb11_11 : gb411 ≠ gb398)); replace BK398 := bkb BK398 hb; have NB399_411 := Aside0.mk ((by rw [hg]; exact Nat.ne_of_lt (blk_lt (g := gb399) (o := .cells #[.string (⟨#[]⟩ : ByteArray), .int .i64 0, .slice none 0 0, .int .i64 0, .int .i64 0] 29 (0, 0)) zb13_11) : gb399 ≠ gb411)); have NB411_399 := Aside0.mk ((by rw [hg]; exact Nat.ne_of_gt (blk_lt (g := gb399) (o := .cells #[.string (⟨#[]⟩ : ByteArray), .int .i64 0, .slice none 0 0, .int .i64 0, .int .i64 0] 29 (0, 0)) zb13_11) : gb411 ≠ gb399)); replace BK399 := bkb BK399 hb; clear hb hbox hg; have hnb45 := NB411_398.out; have hnc45 := NB398_411.out; have hnb46 := NB411_399.out; have hnc46 := NB399_411.out; obtain ⟨z0, z1, z2, z3, z4, z5⟩ := bz3 BK411.out; obtain ⟨Ao48, co48, eo48⟩ := Kd.R_slice HO410.out; subst eo48; obtain ⟨z0, z1, z2, z3, z4, z5⟩ := bz3 BK398.out) | ((with_reducible refine gate_builtin (b := .append) (xs := #[.tmp 35, .tmp 40]) rfl ?_); at_builtin; refine Kd.R_append k43 (w0 := w) w.heap.size rfl (.tmp 35) (.tmp 40) 23 43 (.agg #[(.string ⟨#[]⟩), (.int .i64 0), (.int .i64 0), (.string ⟨#[]⟩)]) 48 rfl Tryd.underlying23 info43 rfl (by decide) (by omega) (.slice Ao48 t408.length co48) t408 (⟨a1, a0_1, 0, (⟨#[]⟩ : ByteArray)⟩ : S43) [.string a1, .int .i64 a0_1, .int .i64 0, .string (⟨#[]⟩ : ByteArray)] (fun _ => True) (fun _ => False) rfl (by (go_simp; done)) ?aP (fun _ hk => hk.elim) ?aF ?aO ?aB ?aS ?aL ?_; (case aP => exact k43_mkM _ _ _ (⟨a1, a0_1, 0, (⟨#[]⟩ : ByteArray)⟩ : S43)); (case aB => exact (by repeat ((with_reducible first | exact HB.out | refine below_set ?_ GE411.out)))); (case aF => exact (fun _ _ => trivial)); (case aO => exact (by exact Kd.R_mono (rfa (rfa (rfa (Kd.R_types HO410.out BK411.out (by decide)) (fun _ h => h.2)) (fun _ h => h.2)) (fun _ h => h.2)) (fun _ hk => trivial))); (case aS => exact (below_size (by repeat ((with_reducible first | exact HB.out | refine below_set ?_ GE411.out))))); (case aL => have := LMc40.out; omega); intro v413 w50 ho hb hg hat; rw [← Ny412.out] at ho; replace BK398 := Aside0.mk (blk_grown (g := gb398) (o := .cells #[.string a0_0, .int .i64 a0_1, .slice A0_2 l0_2.length c0_2] 25 (0, 0)) (by refine blk_far ?_ NB398_411.out _; refine blk_far ?_ NB398_411.out _; refine blk_far ?_ NB398_411.out _; exact BK398.out) hg (Kd.R_ne HO410.out BK398.out (by decide))); replace BK399 := Aside0.mk (blk_grown (g := gb399) (o := .cells #[.string (⟨#[]⟩ : ByteArray), .int .i64 0, .slice none 0 0, .int .i64 0, .int .i64 0] 29 (0, 0)) (by refine blk_far ?_ NB399_411.out _; refine blk_far ?_ NB399_411.out _; refine blk_far ?_ NB399_411.out _; exact BK399.out) hg (Kd.R_ne HO410.out BK399.out (by decide))); replace BK411 := Aside0.mk (blk_grown (g := gb411) (o := .cells #[.string t406, .int .i64 t407, .slice Ao48 t408.length co48] 25 (0, 0)) (by apply bp3; exact BK411.out) hg (Kd.R_ne HO410.out BK411.out (by decide))); replace HB := Aside0.mk (hb); have HO414 := Aside0.mk (ho); clear HO410; clear ho hb hg hat; obtain ⟨Ao51, co51, eo51⟩ := Kd.R_slice HO414.out; subst eo51; obtain ⟨z0, z1, z2, z3, z4, z5⟩ := bz3 BK411.out; obtain ⟨z0, z1, z2, z3, z4, z5⟩ := bz3 BK398.out; obtain ⟨z0, z1, z2, z3, z4, z5, z6, z7, z8, z9⟩ := bz5 BK399.out))
   refine bodyPost_ret (results_cell_row rfl _ _ gb399 29 #[.string t406, .int .i64 (wrap64 (t407 + 1)), .slice Ao51 y412.length co51, .int .i64 a0_1, .int .i64 0] (0, 0) _ rfl (by apply bp5; refine blk_far ?_ NB399_411.out _; refine blk_far ?_ NB399_411.out _; exact BK399.out) Tryd.underlying29 rfl (by kernel_rfl)) rfl ?_
   exact ⟨_, by rfl, by exact Kd.R_mono (rfa (rfa (rfa (rfa (rfa (rfa (rfa (Kd.R_types (Kd.R_types HO414.out BK411.out (by decide)) BK399.out (by decide)) (fun _ hk => hk.1.2)) (fun _ hk => hk.1.2)) (fun _ h => h.2)) (fun _ h => h.2)) (fun _ h => h.2)) (fun _ h => h.2)) (fun _ h => h.2)) (fun _ hk => trivial), by repeat ((with_reducible first | exact HB.out | refine below_set ?_ GE399.out | refine below_set ?_ GE411.out))⟩
end Go.Proofs.YtfijkimkdccioaaDoor.QFnDialback
