-- laid by this session's own runner (wip/print2.py): not a printed file
import Derived.Test.YtjchggdekbnmnaaDoorQFnExactHeadTextx0
import Derived.Test.YtjchggdekbnmnaaDoorQFnExactHeadTextx1
import Derived.Test.YtjchggdekbnmnaaDoorQFnExactHeadTextx2
import Derived.Test.YtjchggdekbnmnaaDoorQFnExactHeadTextx4
namespace Go.Proofs.YtjchggdekbnmnaaDoor.QFnExactHeadText
open Go.RowKit Go.Proofs.YtjchggdekbnmnaaDoorW.PrintWords Go.Proofs.YtjchggdekbnmnaaDoorW.PrintLast Go.Proofs.YtjchggdekbnmnaaDoorW.PrintMore
attribute [local go_sem] max2_int min2_int max_two min_two max_three min_three max_four min_four   -- for this text's walks alone
set_option linter.unusedVariables false
set_option linter.unusedSimpArgs false

theorem bcq_5 {w : World} {g t : Nat} {cs : Array Value} {v : Value} (h : w.heap[g]? = some (.cells cs t (0, 0))) (j : Nat) (e : cs[j]? = some v := by rfl) : w.cell? ⟨g, j, none⟩ = some v := (blk_cell h j).trans e
theorem zb0_5 {P : Prop} (h : P := by repeat (first | (with_reducible first | exact HB.out | apply below_alloc | apply pw_below_drewN | apply below_drew1) | exact HB.out)) : P := h
theorem zb1_5 {P : Prop} (h : P := by rw [hg]; exact (below_size (by repeat (first | (with_reducible first | exact HB.out | apply below_alloc | apply pw_below_drewN | apply below_drew1) | exact HB.out)))) : P := h
theorem zb2_5 {P : Prop} (h : P := by (try simp only [List.map_toArray, List.map_cons, List.map_nil]); first | done | rfl | (simp only [List.length_drop, List.length_take]; rfl)) : P := h
theorem zb3_5 {P : Prop} (h : P := by first | exact hmx | exact hmx.below HB.out | exact hmx.below (by repeat (first | (with_reducible first | exact HB.out | apply below_alloc | apply pw_below_drewN | apply below_drew1 | refine below_set ?_ GE159.out | exact Below.refl _ _) | exact HB.out | exact Below.refl _ _))) : P := h
theorem zb4_5 {P : Prop} (h : P := by (with_reducible repeat (first | refine blk_drewN ?_ _ | refine blk_drew ?_ | refine blk_alloc ?_ _)); exact BK159.out) : P := h
theorem zb5_5 {P : Prop} (h : P := by repeat (first | (with_reducible first | exact HB.out | apply below_alloc | apply pw_below_drewN | apply below_drew1 | refine below_set ?_ GE159.out) | exact HB.out)) : P := h
theorem zb6_5 {P : Prop} (h : P := by (with_reducible repeat (first | refine blk_drewN ?_ _ | refine blk_drew ?_ | refine blk_alloc ?_ _)); exact BK162.out) : P := h
theorem zb7_5 {P : Prop} (h : P := by repeat (first | (with_reducible first | exact HB.out | apply below_alloc | apply pw_below_drewN | apply below_drew1 | refine below_set ?_ GE162.out) | exact HB.out)) : P := h
/-! ### impl_Head_text: function 56 -/
def impl_Head_text.f (a0_0 : ByteArray) (a0_1 : ByteArray) (a0_2 : Int) : Option (ByteArray) := if 14 + a0_0.size ≤ 9223372036854775807 then (if ((⟨#[60, 115, 116, 114, 101, 97, 109, 32, 102, 114, 111, 109, 61, 39]⟩ : ByteArray) ++ a0_0).size + 6 ≤ 9223372036854775807 then (if (((⟨#[60, 115, 116, 114, 101, 97, 109, 32, 102, 114, 111, 109, 61, 39]⟩ : ByteArray) ++ a0_0) ++ (⟨#[39, 32, 116, 111, 61, 39]⟩ : ByteArray)).size + a0_1.size ≤ 9223372036854775807 then (if ((((⟨#[60, 115, 116, 114, 101, 97, 109, 32, 102, 114, 111, 109, 61, 39]⟩ : ByteArray) ++ a0_0) ++ (⟨#[39, 32, 116, 111, 61, 39]⟩ : ByteArray)) ++ a0_1).size + 6 ≤ 9223372036854775807 then ((impl_decimal.f a0_2).bind fun t158 => (if (((((⟨#[60, 115, 116, 114, 101, 97, 109, 32, 102, 114, 111, 109, 61, 39]⟩ : ByteArray) ++ a0_0) ++ (⟨#[39, 32, 116, 111, 61, 39]⟩ : ByteArray)) ++ a0_1) ++ (⟨#[39, 32, 105, 100, 61, 39]⟩ : ByteArray)).size + t158.size ≤ 9223372036854775807 then (if ((((((⟨#[60, 115, 116, 114, 101, 97, 109, 32, 102, 114, 111, 109, 61, 39]⟩ : ByteArray) ++ a0_0) ++ (⟨#[39, 32, 116, 111, 61, 39]⟩ : ByteArray)) ++ a0_1) ++ (⟨#[39, 32, 105, 100, 61, 39]⟩ : ByteArray)) ++ t158).size + 2 ≤ 9223372036854775807 then (some (((((((⟨#[60, 115, 116, 114, 101, 97, 109, 32, 102, 114, 111, 109, 61, 39]⟩ : ByteArray) ++ a0_0) ++ (⟨#[39, 32, 116, 111, 61, 39]⟩ : ByteArray)) ++ a0_1) ++ (⟨#[39, 32, 105, 100, 61, 39]⟩ : ByteArray)) ++ t158) ++ (⟨#[39, 62]⟩ : ByteArray))) else (none)) else (none))) else (none)) else (none)) else (none)) else (none)
def impl_Head_text.T1 : Bool × List (List Nat × List Nat) := (true, [([], []), ([0], [0]), ([1], [1]), ([2], [2]), ([], []), ([4], [4]), ([3, 5], [3, 5]), ([6], [6]), ([], []), ([8], [8]), ([9], [9]), ([7, 10], [7, 10]), ([11], [11]), ([12, 10, 0, 1, 2, 3, 4, 5, 6, 7, 8, 9, 10, 11, 12], [12])])
def impl_Head_text.B1 : List Nat := [0, 1, 3, 7, 0, 16, 63, 127, 0, 256, 768, 2047, 4095, 8191]
theorem impl_Head_text.tab1 : rtab .any (opsOf Tryd.f56 1) = impl_Head_text.T1 := by kernel_rfl
theorem impl_Head_text.bits1 : waitsOk impl_Head_text.T1.2 impl_Head_text.B1 = true := by kernel_rfl
set_option maxHeartbeats 8000000 in
set_option maxRecDepth 100000 in
theorem impl_Head_text.calls (a0_0 : ByteArray) (a0_1 : ByteArray) (a0_2 : Int) (r : ByteArray) (w : World) (h : impl_Head_text.f a0_0 a0_1 a0_2 = some r) (hmx : MaxIs w) :
    Calls Tryd.prog 56 #[.agg #[.string a0_0, .string a0_1, .int .i64 a0_2]] w fun e w' => e = .returned (.string r) ∧ Below w.heap.size w w' := by
  have hu28 := Tryd.underlying28
  have HB := Aside0.mk (Below.refl w.heap.size w)
  have H : (if 14 + a0_0.size ≤ 9223372036854775807 then (if ((⟨#[60, 115, 116, 114, 101, 97, 109, 32, 102, 114, 111, 109, 61, 39]⟩ : ByteArray) ++ a0_0).size + 6 ≤ 9223372036854775807 then (if (((⟨#[60, 115, 116, 114, 101, 97, 109, 32, 102, 114, 111, 109, 61, 39]⟩ : ByteArray) ++ a0_0) ++ (⟨#[39, 32, 116, 111, 61, 39]⟩ : ByteArray)).size + a0_1.size ≤ 9223372036854775807 then (if ((((⟨#[60, 115, 116, 114, 101, 97, 109, 32, 102, 114, 111, 109, 61, 39]⟩ : ByteArray) ++ a0_0) ++ (⟨#[39, 32, 116, 111, 61, 39]⟩ : ByteArray)) ++ a0_1).size + 6 ≤ 9223372036854775807 then ((impl_decimal.f a0_2).bind fun t158 => (if (((((⟨#[60, 115, 116, 114, 101, 97, 109, 32, 102, 114, 111, 109, 61, 39]⟩ : ByteArray) ++ a0_0) ++ (⟨#[39, 32, 116, 111, 61, 39]⟩ : ByteArray)) ++ a0_1) ++ (⟨#[39, 32, 105, 100, 61, 39]⟩ : ByteArray)).size + t158.size ≤ 9223372036854775807 then (if ((((((⟨#[60, 115, 116, 114, 101, 97, 109, 32, 102, 114, 111, 109, 61, 39]⟩ : ByteArray) ++ a0_0) ++ (⟨#[39, 32, 116, 111, 61, 39]⟩ : ByteArray)) ++ a0_1) ++ (⟨#[39, 32, 105, 100, 61, 39]⟩ : ByteArray)) ++ t158).size + 2 ≤ 9223372036854775807 then (some (((((((⟨#[60, 115, 116, 114, 101, 97, 109, 32, 102, 114, 111, 109, 61, 39]⟩ : ByteArray) ++ a0_0) ++ (⟨#[39, 32, 116, 111, 61, 39]⟩ : ByteArray)) ++ a0_1) ++ (⟨#[39, 32, 105, 100, 61, 39]⟩ : ByteArray)) ++ t158) ++ (⟨#[39, 62]⟩ : ByteArray))) else (none)) else (none))) else (none)) else (none)) else (none)) else (none)) = some r := h
  clear h
  by_cases c2 : 14 + a0_0.size ≤ 9223372036854775807
  · rw [if_pos c2] at H
    have c2b0 := eq_true c2
    have c2b1 : decide (14 + a0_0.size ≤ 9223372036854775807) = true := decide_eq_true c2
    try have c2b2 : (9223372036854775807 < 14 + a0_0.size) = False := eq_false (Nat.not_lt.2 c2)
    by_cases c3 : ((⟨#[60, 115, 116, 114, 101, 97, 109, 32, 102, 114, 111, 109, 61, 39]⟩ : ByteArray) ++ a0_0).size + 6 ≤ 9223372036854775807
    · rw [if_pos c3] at H
      have c3b0 := eq_true c3
      have c3b1 : decide (((⟨#[60, 115, 116, 114, 101, 97, 109, 32, 102, 114, 111, 109, 61, 39]⟩ : ByteArray) ++ a0_0).size + 6 ≤ 9223372036854775807) = true := decide_eq_true c3
      try have c3b2 : (9223372036854775807 < ((⟨#[60, 115, 116, 114, 101, 97, 109, 32, 102, 114, 111, 109, 61, 39]⟩ : ByteArray) ++ a0_0).size + 6) = False := eq_false (Nat.not_lt.2 c3)
      try have c3d : 14 + a0_0.size + 6 ≤ 9223372036854775807 := by have h_ := c3; simp only [ByteArray.size_append] at h_; exact h_
      try have c3d0 := eq_true c3d
      try have c3d1 := decide_eq_true c3d
      try have c3d2 : (9223372036854775807 < 14 + a0_0.size + 6) = False := eq_false (Nat.not_lt.2 c3d)
      by_cases c4 : (((⟨#[60, 115, 116, 114, 101, 97, 109, 32, 102, 114, 111, 109, 61, 39]⟩ : ByteArray) ++ a0_0) ++ (⟨#[39, 32, 116, 111, 61, 39]⟩ : ByteArray)).size + a0_1.size ≤ 9223372036854775807
      · rw [if_pos c4] at H
        have c4b0 := eq_true c4
        have c4b1 : decide ((((⟨#[60, 115, 116, 114, 101, 97, 109, 32, 102, 114, 111, 109, 61, 39]⟩ : ByteArray) ++ a0_0) ++ (⟨#[39, 32, 116, 111, 61, 39]⟩ : ByteArray)).size + a0_1.size ≤ 9223372036854775807) = true := decide_eq_true c4
        try have c4b2 : (9223372036854775807 < (((⟨#[60, 115, 116, 114, 101, 97, 109, 32, 102, 114, 111, 109, 61, 39]⟩ : ByteArray) ++ a0_0) ++ (⟨#[39, 32, 116, 111, 61, 39]⟩ : ByteArray)).size + a0_1.size) = False := eq_false (Nat.not_lt.2 c4)
        try have c4d : 14 + a0_0.size + 6 + a0_1.size ≤ 9223372036854775807 := by have h_ := c4; simp only [ByteArray.size_append] at h_; exact h_
        try have c4d0 := eq_true c4d
        try have c4d1 := decide_eq_true c4d
        try have c4d2 : (9223372036854775807 < 14 + a0_0.size + 6 + a0_1.size) = False := eq_false (Nat.not_lt.2 c4d)
        by_cases c5 : ((((⟨#[60, 115, 116, 114, 101, 97, 109, 32, 102, 114, 111, 109, 61, 39]⟩ : ByteArray) ++ a0_0) ++ (⟨#[39, 32, 116, 111, 61, 39]⟩ : ByteArray)) ++ a0_1).size + 6 ≤ 9223372036854775807
        · rw [if_pos c5] at H
          have c5b0 := eq_true c5
          have c5b1 : decide (((((⟨#[60, 115, 116, 114, 101, 97, 109, 32, 102, 114, 111, 109, 61, 39]⟩ : ByteArray) ++ a0_0) ++ (⟨#[39, 32, 116, 111, 61, 39]⟩ : ByteArray)) ++ a0_1).size + 6 ≤ 9223372036854775807) = true := decide_eq_true c5
          try have c5b2 : (9223372036854775807 < ((((⟨#[60, 115, 116, 114, 101, 97, 109, 32, 102, 114, 111, 109, 61, 39]⟩ : ByteArray) ++ a0_0) ++ (⟨#[39, 32, 116, 111, 61, 39]⟩ : ByteArray)) ++ a0_1).size + 6) = False := eq_false (Nat.not_lt.2 c5)
          try have c5d : 14 + a0_0.size + 6 + a0_1.size + 6 ≤ 9223372036854775807 := by have h_ := c5; simp only [ByteArray.size_append] at h_; exact h_
          try have c5d0 := eq_true c5d
          try have c5d1 := decide_eq_true c5d
          try have c5d2 : (9223372036854775807 < 14 + a0_0.size + 6 + a0_1.size + 6) = False := eq_false (Nat.not_lt.2 c5d)
          replace H := Option.bind_eq_some_iff.mp H
          obtain ⟨t158, A60, H⟩ := H
          replace H : (if (((((⟨#[60, 115, 116, 114, 101, 97, 109, 32, 102, 114, 111, 109, 61, 39]⟩ : ByteArray) ++ a0_0) ++ (⟨#[39, 32, 116, 111, 61, 39]⟩ : ByteArray)) ++ a0_1) ++ (⟨#[39, 32, 105, 100, 61, 39]⟩ : ByteArray)).size + t158.size ≤ 9223372036854775807 then (if ((((((⟨#[60, 115, 116, 114, 101, 97, 109, 32, 102, 114, 111, 109, 61, 39]⟩ : ByteArray) ++ a0_0) ++ (⟨#[39, 32, 116, 111, 61, 39]⟩ : ByteArray)) ++ a0_1) ++ (⟨#[39, 32, 105, 100, 61, 39]⟩ : ByteArray)) ++ t158).size + 2 ≤ 9223372036854775807 then (some (((((((⟨#[60, 115, 116, 114, 101, 97, 109, 32, 102, 114, 111, 109, 61, 39]⟩ : ByteArray) ++ a0_0) ++ (⟨#[39, 32, 116, 111, 61, 39]⟩ : ByteArray)) ++ a0_1) ++ (⟨#[39, 32, 105, 100, 61, 39]⟩ : ByteArray)) ++ t158) ++ (⟨#[39, 62]⟩ : ByteArray))) else (none)) else (none)) = some r := H
          have A6 := Aside0.mk A60
          clear A60
          by_cases c7 : (((((⟨#[60, 115, 116, 114, 101, 97, 109, 32, 102, 114, 111, 109, 61, 39]⟩ : ByteArray) ++ a0_0) ++ (⟨#[39, 32, 116, 111, 61, 39]⟩ : ByteArray)) ++ a0_1) ++ (⟨#[39, 32, 105, 100, 61, 39]⟩ : ByteArray)).size + t158.size ≤ 9223372036854775807
          · rw [if_pos c7] at H
            have c7b0 := eq_true c7
            have c7b1 : decide ((((((⟨#[60, 115, 116, 114, 101, 97, 109, 32, 102, 114, 111, 109, 61, 39]⟩ : ByteArray) ++ a0_0) ++ (⟨#[39, 32, 116, 111, 61, 39]⟩ : ByteArray)) ++ a0_1) ++ (⟨#[39, 32, 105, 100, 61, 39]⟩ : ByteArray)).size + t158.size ≤ 9223372036854775807) = true := decide_eq_true c7
            try have c7b2 : (9223372036854775807 < (((((⟨#[60, 115, 116, 114, 101, 97, 109, 32, 102, 114, 111, 109, 61, 39]⟩ : ByteArray) ++ a0_0) ++ (⟨#[39, 32, 116, 111, 61, 39]⟩ : ByteArray)) ++ a0_1) ++ (⟨#[39, 32, 105, 100, 61, 39]⟩ : ByteArray)).size + t158.size) = False := eq_false (Nat.not_lt.2 c7)
            try have c7d : 14 + a0_0.size + 6 + a0_1.size + 6 + t158.size ≤ 9223372036854775807 := by have h_ := c7; simp only [ByteArray.size_append] at h_; exact h_
            try have c7d0 := eq_true c7d
            try have c7d1 := decide_eq_true c7d
            try have c7d2 : (9223372036854775807 < 14 + a0_0.size + 6 + a0_1.size + 6 + t158.size) = False := eq_false (Nat.not_lt.2 c7d)
            by_cases c8 : ((((((⟨#[60, 115, 116, 114, 101, 97, 109, 32, 102, 114, 111, 109, 61, 39]⟩ : ByteArray) ++ a0_0) ++ (⟨#[39, 32, 116, 111, 61, 39]⟩ : ByteArray)) ++ a0_1) ++ (⟨#[39, 32, 105, 100, 61, 39]⟩ : ByteArray)) ++ t158).size + 2 ≤ 9223372036854775807
            · rw [if_pos c8] at H
              have c8b0 := eq_true c8
              have c8b1 : decide (((((((⟨#[60, 115, 116, 114, 101, 97, 109, 32, 102, 114, 111, 109, 61, 39]⟩ : ByteArray) ++ a0_0) ++ (⟨#[39, 32, 116, 111, 61, 39]⟩ : ByteArray)) ++ a0_1) ++ (⟨#[39, 32, 105, 100, 61, 39]⟩ : ByteArray)) ++ t158).size + 2 ≤ 9223372036854775807) = true := decide_eq_true c8
              try have c8b2 : (9223372036854775807 < ((((((⟨#[60, 115, 116, 114, 101, 97, 109, 32, 102, 114, 111, 109, 61, 39]⟩ : ByteArray) ++ a0_0) ++ (⟨#[39, 32, 116, 111, 61, 39]⟩ : ByteArray)) ++ a0_1) ++ (⟨#[39, 32, 105, 100, 61, 39]⟩ : ByteArray)) ++ t158).size + 2) = False := eq_false (Nat.not_lt.2 c8)
              try have c8d : 14 + a0_0.size + 6 + a0_1.size + 6 + t158.size + 2 ≤ 9223372036854775807 := by have h_ := c8; simp only [ByteArray.size_append] at h_; exact h_
              try have c8d0 := eq_true c8d
              try have c8d1 := decide_eq_true c8d
              try have c8d2 : (9223372036854775807 < 14 + a0_0.size + 6 + a0_1.size + 6 + t158.size + 2) = False := eq_false (Nat.not_lt.2 c8d)
              obtain rfl := Option.some.inj H
              go_enter Tryd.func56, Tryd.ntmps56
              try go_wp2_with (first | ((with_reducible refine gate_dst (N := 1) rfl ?_); refine box_event ?hg (N := 1) ?hd (cs := #[.string a0_0, .string a0_1, .int .i64 a0_2]) (t := 28) ?hr ?_; (case hd => rfl); (case hg => rfl); (case hr => first | (go_simp; done) | (go_simp; rfl)); intro gb157 hg w9 hbox hb; have n0_ := Aside0.mk (below_step zb0_5 hb); have n1_ := Aside0.mk (hbox); have n2_ := Aside0.mk ((zb1_5 : w.heap.size ≤ gb157)); have n3_ := Aside0.mk ((zb1_5 : w.heap.size ≤ gb157)); clear HB; have HB := n0_; have BK157 := n1_; have GW157 := n2_; have GE157 := n3_; clear n0_ n1_ n2_ n3_; clear hb hbox hg))
              have n0_ := Aside0.mk (blk_drew BK157.out)
              have n1_ := Aside0.mk (below_drew1 HB.out)
              clear BK157
              clear HB
              have BK157 := n0_
              have HB := n1_
              clear n0_ n1_
              refine start_ (n := 14) (S := fun w' => w'.cell? ⟨gb157, 0, none⟩ = some (.string a0_0) ∧ w'.cell? ⟨gb157, 1, none⟩ = some (.string a0_1) ∧ w'.cell? ⟨gb157, 2, none⟩ = some (.int .i64 a0_2)) (ds := []) #[false, false, false, false, false, false, false, false, false, false, false, false, false, false] (by kernel_rfl) rfl rfl ⟨(blk_cell BK157.out 0).trans rfl, (blk_cell BK157.out 1).trans rfl, (blk_cell BK157.out 2).trans rfl⟩ (fun hHeld => ?_); refine with_tabW impl_Head_text.tab1 impl_Head_text.bits1 (fun HT_ HW_ => ?_)
              generalize w9.drew = w10 at BK157 HB hHeld ⊢
              refine pure_ (i := 0) (N := some 3) (v := ?_) (a' := ?_) #[true, false, false, false, false, false, false, false, false, false, false, false, false, false] rfl rfl (any_of HT_.out (by kernel_rfl)) (fun _ _ _ h => h) (Or.inl ⟨by rfl, ?_⟩) ?_ ?_
              rotate_left
              · intro w'
                go_simp
                with_reducible rfl
              rotate_left
              · simp only [Act.put, List.setIfInBounds_toArray, List.set_cons_zero, List.set_cons_succ, i64_w, i32_w]
                rfl
              refine pure_ (i := 4) (N := some 7) (v := ?_) (a' := ?_) #[true, false, false, false, true, false, false, false, false, false, false, false, false, false] rfl rfl (any_of HT_.out (by kernel_rfl)) (fun _ _ _ h => h) (Or.inl ⟨by rfl, ?_⟩) ?_ ?_
              rotate_left
              · intro w'
                go_simp
                with_reducible rfl
              rotate_left
              · simp only [Act.put, List.setIfInBounds_toArray, List.set_cons_zero, List.set_cons_succ, i64_w, i32_w]
                rfl
              refine pure_ (i := 8) (N := some 11) (v := ?_) (a' := ?_) #[true, false, false, false, true, false, false, false, true, false, false, false, false, false] rfl rfl (any_of HT_.out (by kernel_rfl)) (fun _ _ _ h => h) (Or.inl ⟨by rfl, ?_⟩) ?_ ?_
              rotate_left
              · intro w'
                go_simp
                with_reducible rfl
              rotate_left
              · simp only [Act.put, List.setIfInBounds_toArray, List.set_cons_zero, List.set_cons_succ, i64_w, i32_w]
                rfl
              refine take_ (i := 1) (N := some 4) (v := ?_) (a' := ?_) #[true, true, false, false, true, false, false, false, true, false, false, false, false, false] rfl rfl (take_ofW HT_.out HW_.out (by kernel_rfl)) (fun _ _ _ h => h) (Or.inl ⟨by rfl, ?_⟩) hHeld ?_ ?_
              rotate_left
              · rintro w' ⟨s0, s1, s2⟩
                go_simp
                with_reducible rfl
              rotate_left
              · simp only [Act.put, List.setIfInBounds_toArray, List.set_cons_zero, List.set_cons_succ, i64_w, i32_w]
                rfl
              refine pure_ (i := 2) (N := some 5) (v := ?_) (a' := ?_) #[true, true, true, false, true, false, false, false, true, false, false, false, false, false] rfl rfl (any_of HT_.out (by kernel_rfl)) (fun _ _ _ h => h) (Or.inl ⟨by rfl, ?_⟩) ?_ ?_
              rotate_left
              · intro w'
                go_simp
                with_reducible rfl
              rotate_left
              · simp only [Act.put, List.setIfInBounds_toArray, List.set_cons_zero, List.set_cons_succ, i64_w, i32_w]
                rfl
              refine pure_ (i := 3) (N := some 6) (v := ?_) (a' := ?_) #[true, true, true, true, true, false, false, false, true, false, false, false, false, false] rfl rfl (any_of HT_.out (by kernel_rfl)) (fun _ _ _ h => h) (Or.inl ⟨by rfl, ?_⟩) ?_ ?_
              rotate_left
              · intro w'
                go_simp
                with_reducible rfl
              rotate_left
              · simp only [Act.put, List.setIfInBounds_toArray, List.set_cons_zero, List.set_cons_succ, i64_w, i32_w]
                rfl
              refine take_ (i := 5) (N := some 8) (v := ?_) (a' := ?_) #[true, true, true, true, true, true, false, false, true, false, false, false, false, false] rfl rfl (take_ofW HT_.out HW_.out (by kernel_rfl)) (fun _ _ _ h => h) (Or.inl ⟨by rfl, ?_⟩) hHeld ?_ ?_
              rotate_left
              · rintro w' ⟨s0, s1, s2⟩
                go_simp
                with_reducible rfl
              rotate_left
              · simp only [Act.put, List.setIfInBounds_toArray, List.set_cons_zero, List.set_cons_succ, i64_w, i32_w]
                rfl
              refine pure_ (i := 6) (N := some 9) (v := ?_) (a' := ?_) #[true, true, true, true, true, true, true, false, true, false, false, false, false, false] rfl rfl (any_of HT_.out (by kernel_rfl)) (fun _ _ _ h => h) (Or.inl ⟨by rfl, ?_⟩) ?_ ?_
              rotate_left
              · intro w'
                go_simp
                with_reducible rfl
              rotate_left
              · simp only [Act.put, List.setIfInBounds_toArray, List.set_cons_zero, List.set_cons_succ, i64_w, i32_w]
                rfl
              refine pure_ (i := 7) (N := some 10) (v := ?_) (a' := ?_) #[true, true, true, true, true, true, true, true, true, false, false, false, false, false] rfl rfl (any_of HT_.out (by kernel_rfl)) (fun _ _ _ h => h) (Or.inl ⟨by rfl, ?_⟩) ?_ ?_
              rotate_left
              · intro w'
                go_simp
                with_reducible rfl
              rotate_left
              · simp only [Act.put, List.setIfInBounds_toArray, List.set_cons_zero, List.set_cons_succ, i64_w, i32_w]
                rfl
              refine take_ (i := 9) (N := some 12) (v := ?_) (a' := ?_) #[true, true, true, true, true, true, true, true, true, true, false, false, false, false] rfl rfl (take_ofW HT_.out HW_.out (by kernel_rfl)) (fun _ _ _ h => h) (Or.inl ⟨by rfl, ?_⟩) hHeld ?_ ?_
              rotate_left
              · rintro w' ⟨s0, s1, s2⟩
                go_simp
                with_reducible rfl
              rotate_left
              · simp only [Act.put, List.setIfInBounds_toArray, List.set_cons_zero, List.set_cons_succ, i64_w, i32_w]
                rfl
              refine one_ (i := 10) (N := some 13) #[true, true, true, true, true, true, true, true, true, true, true, false, false, false] rfl rfl (one_of HT_.out (by kernel_rfl)) (by decide) (fun K hK => ?_)
              refine goes_ Tryd.func76 (by kernel_rfl) rfl #[.int .i64 a0_2] (by rfl) rfl rfl zb2_5 ?_
              with_reducible refine (impl_decimal.calls a0_2 t158 _ A6.out (by first | exact hmx | exact hmx.below HB.out | exact hmx.below (by repeat (first | (with_reducible first | exact HB.out | apply below_alloc | apply pw_below_drewN | apply below_drew1 | refine below_set ?_ GE157.out | exact Below.refl _ _) | exact HB.out | exact Below.refl _ _)))).mono ?_
              rintro e w11 ⟨rfl, hb⟩
              refine ⟨_, rfl, ?_⟩
              have n0_ := Aside0.mk (blk_below (g := gb157) (o := .cells #[.string a0_0, .string a0_1, .int .i64 a0_2] 28 (0, 0)) (by (with_reducible repeat (first | refine blk_drewN ?_ _ | refine blk_drew ?_ | refine blk_alloc ?_ _)); exact BK157.out) hb)
              have n1_ := Aside0.mk (below_step (by repeat (first | (with_reducible first | exact HB.out | apply below_alloc | apply pw_below_drewN | apply below_drew1 | refine below_set ?_ GE157.out) | exact HB.out)) hb)
              clear BK157
              clear HB
              have BK157 := n0_
              have HB := n1_
              clear n0_ n1_
              (try clear hb)
              (try clear hb2)
              (try clear hk)
              (try clear hi)
              refine hK.out _ _ ⟨(blk_cell BK157.out 0).trans rfl, (blk_cell BK157.out 1).trans rfl, (blk_cell BK157.out 2).trans rfl⟩ (fun hHeld => ?_)
              clear hK K
              refine norm_ (a' := ?_) ?_ ?_
              rotate_left
              · show Act.put _ (some 13) _ = _
                simp only [Act.put, List.setIfInBounds_toArray, List.set_cons_zero, List.set_cons_succ, i64_w, i32_w]
                rfl
              refine pure_ (i := 11) (N := some 14) (v := ?_) (a' := ?_) #[true, true, true, true, true, true, true, true, true, true, true, true, false, false] rfl rfl (any_of HT_.out (by kernel_rfl)) (fun _ _ _ h => h) (Or.inl ⟨by rfl, ?_⟩) ?_ ?_
              rotate_left
              · intro w'
                go_simp
                with_reducible rfl
              rotate_left
              · simp only [Act.put, List.setIfInBounds_toArray, List.set_cons_zero, List.set_cons_succ, i64_w, i32_w]
                rfl
              refine pure_ (i := 12) (N := some 15) (v := ?_) (a' := ?_) #[true, true, true, true, true, true, true, true, true, true, true, true, true, false] rfl rfl (any_of HT_.out (by kernel_rfl)) (fun _ _ _ h => h) (Or.inl ⟨by rfl, ?_⟩) ?_ ?_
              rotate_left
              · intro w'
                go_simp
                with_reducible rfl
              rotate_left
              · simp only [Act.put, List.setIfInBounds_toArray, List.set_cons_zero, List.set_cons_succ, i64_w, i32_w]
                rfl
              refine pure_ (i := 13) (N := some 2) (v := ?_) (a' := ?_) #[true, true, true, true, true, true, true, true, true, true, true, true, true, true] rfl rfl (any_of HT_.out (by kernel_rfl)) (fun _ _ _ h => h) (Or.inl ⟨by rfl, ?_⟩) ?_ ?_
              rotate_left
              · intro w'
                go_simp
                with_reducible rfl
              rotate_left
              · simp only [Act.put, List.setIfInBounds_toArray, List.set_cons_zero, List.set_cons_succ, i64_w, i32_w]
                rfl
              refine done_ (done_of HT_.out (by kernel_rfl)) ?_
              try go_wp2
              go_ret
              exact ⟨by first | rfl | (simp [errW_none, errW_some] <;> rfl) | (simp [*, errW_none, errW_some] <;> rfl), by repeat (first | (with_reducible first | exact HB.out | apply below_alloc | apply pw_below_drewN | apply below_drew1 | refine below_set ?_ GE157.out) | exact HB.out)⟩
            · rw [if_neg c8] at H
              exact absurd H (by simp)
          · rw [if_neg c7] at H
            exact absurd H (by simp)
        · rw [if_neg c5] at H
          exact absurd H (by simp)
      · rw [if_neg c4] at H
        exact absurd H (by simp)
    · rw [if_neg c3] at H
      exact absurd H (by simp)
  · rw [if_neg c2] at H
    exact absurd H (by simp)

/-! ### impl_HeadText: function 25 -/
def impl_HeadText.f (k : Nat) (a0_0 : ByteArray) (a0_1 : ByteArray) (a0_2 : Int) : Option (ByteArray) := (impl_headRight.f k a0_0 a0_1 a0_2).bind fun t160 => (if t160 = true then ((impl_Head_text.f a0_0 a0_1 a0_2).bind fun t161 => (some t161)) else (some (⟨#[]⟩ : ByteArray)))
theorem impl_HeadText.mono : ∀ a0 a1 a2 k, LeO (impl_HeadText.f k a0 a1 a2) (impl_HeadText.f (k + 1) a0 a1 a2) := by
  intro a0 a1 a2 k
  unfold impl_HeadText.f
  repeat' first
      | (with_reducible exact impl_headRight.mono _ _ _ _)
      | (with_reducible exact LeO.refl _)
      | (with_reducible exact LeO.none _)
      | (with_reducible refine LeO.ite ?_ ?_)
      | (with_reducible refine LeO.bind ?_ (fun _ => ?_))
      | exact impl_headRight.mono _ _ _ _
      | exact LeO.none _
      | refine LeO.ite ?_ ?_
      | refine LeO.bind ?_ (fun _ => ?_)
set_option maxHeartbeats 8000000 in
set_option maxRecDepth 100000 in
theorem impl_HeadText.calls (k : Nat) (a0_0 : ByteArray) (a0_1 : ByteArray) (a0_2 : Int) (r : ByteArray) (w : World) (h : impl_HeadText.f k a0_0 a0_1 a0_2 = some r) (hmx : MaxIs w) :
    Calls Tryd.prog 25 #[.agg #[.string a0_0, .string a0_1, .int .i64 a0_2]] w fun e w' => e = .returned (.string r) ∧ Below w.heap.size w w' := by
  have hu28 := Tryd.underlying28
  have HB := Aside0.mk (Below.refl w.heap.size w)
  have H : ((impl_headRight.f k a0_0 a0_1 a0_2).bind fun t160 => (if t160 = true then ((impl_Head_text.f a0_0 a0_1 a0_2).bind fun t161 => (some t161)) else (some (⟨#[]⟩ : ByteArray)))) = some r := h
  clear h
  replace H := Option.bind_eq_some_iff.mp H
  obtain ⟨t160, A20, H⟩ := H
  replace H : (if t160 = true then ((impl_Head_text.f a0_0 a0_1 a0_2).bind fun t161 => (some t161)) else (some (⟨#[]⟩ : ByteArray))) = some r := H
  have A2 := Aside0.mk A20
  clear A20
  by_cases c3 : t160 = true
  · subst c3
    have H1 : ((impl_Head_text.f a0_0 a0_1 a0_2).bind fun t161 => (some t161)) = some r := by rw [if_pos rfl] at H; exact H
    clear H
    have H := H1
    clear H1
    replace H := Option.bind_eq_some_iff.mp H
    obtain ⟨t161, A40, H⟩ := H
    replace H : (some t161) = some r := H
    have A4 := Aside0.mk A40
    clear A40
    obtain rfl := Option.some.inj H
    go_enter Tryd.func25, Tryd.ntmps25
    go_wp2_with (first | ((with_reducible refine gate_dst (N := 1) rfl ?_); refine box_event ?hg (N := 1) ?hd (cs := #[.string a0_0, .string a0_1, .int .i64 a0_2]) (t := 28) ?hr ?_; (case hd => rfl); (case hg => rfl); (case hr => first | (go_simp; done) | (go_simp; rfl)); intro gb159 hg w5 hbox hb; have n0_ := Aside0.mk (below_step zb0_5 hb); have n1_ := Aside0.mk (hbox); have n2_ := Aside0.mk ((zb1_5 : w.heap.size ≤ gb159)); have n3_ := Aside0.mk ((zb1_5 : w.heap.size ≤ gb159)); clear HB; have HB := n0_; have BK159 := n1_; have GW159 := n2_; have GE159 := n3_; clear n0_ n1_ n2_ n3_; clear hb hbox hg; have hcz6_0 := bcq_5 BK159.out 0; have hcz6_1 := bcq_5 BK159.out 1; have hcz6_2 := bcq_5 BK159.out 2; have hfz6_0 := blk_frozen BK159.out 0; have hfz6_1 := blk_frozen BK159.out 1; have hfz6_2 := blk_frozen BK159.out 2) | ((with_reducible refine gate_callee (f := 44) rfl ?_); refine goesL_ (some 4) rfl rfl Tryd.func44 (by kernel_rfl) rfl #[.agg #[.string a0_0, .string a0_1, .int .i64 a0_2]] rfl zb2_5 ?_; (with_reducible refine (impl_headRight.calls k a0_0 a0_1 a0_2 true _ A2.out zb3_5).mono ?_); rintro e w7 ⟨rfl, hb⟩; refine ⟨_, rfl, ?_⟩; have n0_ := Aside0.mk (blk_below (g := gb159) (o := .cells #[.string a0_0, .string a0_1, .int .i64 a0_2] 28 (0, 0)) zb4_5 hb); have n1_ := Aside0.mk (below_step zb5_5 hb); clear BK159; clear HB; have BK159 := n0_; have HB := n1_; clear n0_ n1_; (try clear hb); (try clear hb2); (try clear hk); (try clear hi); have hcz8_0 := bcq_5 BK159.out 0; have hcz8_1 := bcq_5 BK159.out 1; have hcz8_2 := bcq_5 BK159.out 2; have hfz8_0 := blk_frozen BK159.out 0; have hfz8_1 := blk_frozen BK159.out 1; have hfz8_2 := blk_frozen BK159.out 2) | ((with_reducible refine gate_callee (f := 56) rfl ?_); refine goesL_ (some 7) rfl rfl Tryd.func56 (by kernel_rfl) rfl #[.agg #[.string a0_0, .string a0_1, .int .i64 a0_2]] rfl zb2_5 ?_; (with_reducible refine (impl_Head_text.calls a0_0 a0_1 a0_2 t161 _ A4.out zb3_5).mono ?_); rintro e w9 ⟨rfl, hb⟩; refine ⟨_, rfl, ?_⟩; have n0_ := Aside0.mk (blk_below (g := gb159) (o := .cells #[.string a0_0, .string a0_1, .int .i64 a0_2] 28 (0, 0)) zb4_5 hb); have n1_ := Aside0.mk (below_step zb5_5 hb); clear BK159; clear HB; have BK159 := n0_; have HB := n1_; clear n0_ n1_; (try clear hb); (try clear hb2); (try clear hk); (try clear hi)))
    go_ret
    exact ⟨by first | rfl | (simp [errW_none, errW_some] <;> rfl) | (simp [*, errW_none, errW_some] <;> rfl), by repeat (first | (with_reducible first | exact HB.out | apply below_alloc | apply pw_below_drewN | apply below_drew1 | refine below_set ?_ GE159.out) | exact HB.out)⟩
  · replace c3 := Bool.eq_false_iff.mpr c3
    subst c3
    have H1 : (some (⟨#[]⟩ : ByteArray)) = some r := by rw [if_neg (show ¬ (false = true) by decide)] at H; exact H
    clear H
    have H := H1
    clear H1
    obtain rfl := Option.some.inj H
    go_enter Tryd.func25, Tryd.ntmps25
    go_wp2_with (first | ((with_reducible refine gate_dst (N := 1) rfl ?_); refine box_event ?hg (N := 1) ?hd (cs := #[.string a0_0, .string a0_1, .int .i64 a0_2]) (t := 28) ?hr ?_; (case hd => rfl); (case hg => rfl); (case hr => first | (go_simp; done) | (go_simp; rfl)); intro gb159 hg w10 hbox hb; have n0_ := Aside0.mk (below_step zb0_5 hb); have n1_ := Aside0.mk (hbox); have n2_ := Aside0.mk ((zb1_5 : w.heap.size ≤ gb159)); have n3_ := Aside0.mk ((zb1_5 : w.heap.size ≤ gb159)); clear HB; have HB := n0_; have BK159 := n1_; have GW159 := n2_; have GE159 := n3_; clear n0_ n1_ n2_ n3_; clear hb hbox hg; have hcz11_0 := bcq_5 BK159.out 0; have hcz11_1 := bcq_5 BK159.out 1; have hcz11_2 := bcq_5 BK159.out 2; have hfz11_0 := blk_frozen BK159.out 0; have hfz11_1 := blk_frozen BK159.out 1; have hfz11_2 := blk_frozen BK159.out 2) | ((with_reducible refine gate_callee (f := 44) rfl ?_); refine goesL_ (some 4) rfl rfl Tryd.func44 (by kernel_rfl) rfl #[.agg #[.string a0_0, .string a0_1, .int .i64 a0_2]] rfl zb2_5 ?_; (with_reducible refine (impl_headRight.calls k a0_0 a0_1 a0_2 false _ A2.out zb3_5).mono ?_); rintro e w12 ⟨rfl, hb⟩; refine ⟨_, rfl, ?_⟩; have n0_ := Aside0.mk (blk_below (g := gb159) (o := .cells #[.string a0_0, .string a0_1, .int .i64 a0_2] 28 (0, 0)) zb4_5 hb); have n1_ := Aside0.mk (below_step zb5_5 hb); clear BK159; clear HB; have BK159 := n0_; have HB := n1_; clear n0_ n1_; (try clear hb); (try clear hb2); (try clear hk); (try clear hi)))
    go_ret
    exact ⟨by first | rfl | (simp [errW_none, errW_some] <;> rfl) | (simp [*, errW_none, errW_some] <;> rfl), by repeat (first | (with_reducible first | exact HB.out | apply below_alloc | apply pw_below_drewN | apply below_drew1 | refine below_set ?_ GE159.out) | exact HB.out)⟩

/-! ### laws_FnExactHeadText: function 6 -/
def laws_FnExactHeadText.f (k : Nat) (a0_0 : ByteArray) (a0_1 : ByteArray) (a0_2 : Int) : Option (Bool) := (laws_szHead.f a0_0 a0_1 a0_2 1048576).bind fun t163 => (if t163 < 0 then (some true) else ((laws_toHead.f a0_0 a0_1 a0_2).bind fun bt164 => ((spec_HeadText.f k bt164.1 bt164.2.1 bt164.2.2).bind fun t167 => ((laws_toHead.f a0_0 a0_1 a0_2).bind fun bt168 => ((impl_HeadText.f k bt168.1 bt168.2.1 bt168.2.2).bind fun t171 => (if t171.toList = t167.toList then (some true) else (some false)))))))
theorem laws_FnExactHeadText.mono : ∀ a0 a1 a2 k, LeO (laws_FnExactHeadText.f k a0 a1 a2) (laws_FnExactHeadText.f (k + 1) a0 a1 a2) := by
  intro a0 a1 a2 k
  unfold laws_FnExactHeadText.f
  repeat' first
      | (with_reducible exact impl_HeadText.mono _ _ _ _)
      | (with_reducible exact spec_HeadText.mono _ _ _ _)
      | (with_reducible exact LeO.refl _)
      | (with_reducible exact LeO.none _)
      | (with_reducible refine LeO.ite ?_ ?_)
      | (with_reducible refine LeO.bind ?_ (fun _ => ?_))
      | exact impl_HeadText.mono _ _ _ _
      | exact spec_HeadText.mono _ _ _ _
      | exact LeO.none _
      | refine LeO.ite ?_ ?_
      | refine LeO.bind ?_ (fun _ => ?_)
set_option maxHeartbeats 8000000 in
set_option maxRecDepth 100000 in
theorem laws_FnExactHeadText.calls (k : Nat) (a0_0 : ByteArray) (a0_1 : ByteArray) (a0_2 : Int) (r : Bool) (w : World) (h : laws_FnExactHeadText.f k a0_0 a0_1 a0_2 = some r) (hrt0 : r = true) (hmx : MaxIs w) :
    Calls Tryd.prog 6 #[.agg #[.string a0_0, .string a0_1, .int .i64 a0_2]] w fun e w' => e = .returned (.bool r) ∧ Below w.heap.size w w' := by
  have hrt := Aside0.mk hrt0
  clear hrt0
  have hu23 := Tryd.underlying23
  have HB := Aside0.mk (Below.refl w.heap.size w)
  have H : ((laws_szHead.f a0_0 a0_1 a0_2 1048576).bind fun t163 => (if t163 < 0 then (some true) else ((laws_toHead.f a0_0 a0_1 a0_2).bind fun bt164 => ((spec_HeadText.f k bt164.1 bt164.2.1 bt164.2.2).bind fun t167 => ((laws_toHead.f a0_0 a0_1 a0_2).bind fun bt168 => ((impl_HeadText.f k bt168.1 bt168.2.1 bt168.2.2).bind fun t171 => (if t171.toList = t167.toList then (some true) else (some false)))))))) = some r := h
  clear h
  replace H := Option.bind_eq_some_iff.mp H
  obtain ⟨t163, A20, H⟩ := H
  replace H : (if t163 < 0 then (some true) else ((laws_toHead.f a0_0 a0_1 a0_2).bind fun bt164 => ((spec_HeadText.f k bt164.1 bt164.2.1 bt164.2.2).bind fun t167 => ((laws_toHead.f a0_0 a0_1 a0_2).bind fun bt168 => ((impl_HeadText.f k bt168.1 bt168.2.1 bt168.2.2).bind fun t171 => (if t171.toList = t167.toList then (some true) else (some false))))))) = some r := H
  have A2 := Aside0.mk A20
  clear A20
  by_cases c3 : t163 < 0
  · rw [if_pos c3] at H
    have c3b0 : decide (t163 < 0) = true := decide_eq_true c3
    clear c3
    obtain rfl := Option.some.inj H
    go_enter Tryd.func6, Tryd.ntmps6
    go_wp2_with (first | ((with_reducible refine gate_dst (N := 1) rfl ?_); refine box_event ?hg (N := 1) ?hd (cs := #[.string a0_0, .string a0_1, .int .i64 a0_2]) (t := 23) ?hr ?_; (case hd => rfl); (case hg => rfl); (case hr => first | (go_simp; done) | (go_simp; rfl)); intro gb162 hg w4 hbox hb; have n0_ := Aside0.mk (below_step zb0_5 hb); have n1_ := Aside0.mk (hbox); have n2_ := Aside0.mk ((zb1_5 : w.heap.size ≤ gb162)); have n3_ := Aside0.mk ((zb1_5 : w.heap.size ≤ gb162)); clear HB; have HB := n0_; have BK162 := n1_; have GW162 := n2_; have GE162 := n3_; clear n0_ n1_ n2_ n3_; clear hb hbox hg; have hcz5_0 := bcq_5 BK162.out 0; have hcz5_1 := bcq_5 BK162.out 1; have hcz5_2 := bcq_5 BK162.out 2; have hfz5_0 := blk_frozen BK162.out 0; have hfz5_1 := blk_frozen BK162.out 1; have hfz5_2 := blk_frozen BK162.out 2) | ((with_reducible refine gate_callee (f := 22) rfl ?_); refine goesL_ (some 8) rfl rfl Tryd.func22 (by kernel_rfl) rfl #[.agg #[.string a0_0, .string a0_1, .int .i64 a0_2], .int .i64 1048576] rfl zb2_5 ?_; (with_reducible refine (laws_szHead.calls a0_0 a0_1 a0_2 1048576 t163 _ A2.out).mono ?_); rintro e w6 ⟨rfl, hb⟩; refine ⟨_, rfl, ?_⟩; have n0_ := Aside0.mk (blk_below (g := gb162) (o := .cells #[.string a0_0, .string a0_1, .int .i64 a0_2] 23 (0, 0)) zb6_5 hb); have n1_ := Aside0.mk (below_step zb7_5 hb); clear BK162; clear HB; have BK162 := n0_; have HB := n1_; clear n0_ n1_; (try clear hb); (try clear hb2); (try clear hk); (try clear hi)))
    go_ret
    exact ⟨by first | rfl | (simp [errW_none, errW_some] <;> rfl) | (simp [*, errW_none, errW_some] <;> rfl), by repeat (first | (with_reducible first | exact HB.out | apply below_alloc | apply pw_below_drewN | apply below_drew1 | refine below_set ?_ GE162.out) | exact HB.out)⟩
  · rw [if_neg c3] at H
    have c3b0 : decide (t163 < 0) = false := decide_eq_false c3
    clear c3
    replace H := Option.bind_eq_some_iff.mp H
    obtain ⟨⟨t164, t165, t166⟩, A70, H⟩ := H
    replace H : ((spec_HeadText.f k t164 t165 t166).bind fun t167 => ((laws_toHead.f a0_0 a0_1 a0_2).bind fun bt168 => ((impl_HeadText.f k bt168.1 bt168.2.1 bt168.2.2).bind fun t171 => (if t171.toList = t167.toList then (some true) else (some false))))) = some r := H
    have A7 := Aside0.mk A70
    clear A70
    replace H := Option.bind_eq_some_iff.mp H
    obtain ⟨t167, A80, H⟩ := H
    replace H : ((laws_toHead.f a0_0 a0_1 a0_2).bind fun bt168 => ((impl_HeadText.f k bt168.1 bt168.2.1 bt168.2.2).bind fun t171 => (if t171.toList = t167.toList then (some true) else (some false)))) = some r := H
    have A8 := Aside0.mk A80
    clear A80
    replace H := Option.bind_eq_some_iff.mp H
    obtain ⟨⟨t168, t169, t170⟩, A90, H⟩ := H
    replace H : ((impl_HeadText.f k t168 t169 t170).bind fun t171 => (if t171.toList = t167.toList then (some true) else (some false))) = some r := H
    have A9 := Aside0.mk A90
    clear A90
    replace H := Option.bind_eq_some_iff.mp H
    obtain ⟨t171, A100, H⟩ := H
    replace H : (if t171.toList = t167.toList then (some true) else (some false)) = some r := H
    have A10 := Aside0.mk A100
    clear A100
    by_cases c11 : t171.toList = t167.toList
    · rw [if_pos c11] at H
      have c11b0 : (t171.toList == t167.toList) = true := beq_iff_eq.mpr c11
      have c11b1 : (t171.toList != t167.toList) = false := bne_eq_false_iff_eq.mpr c11
      clear c11
      obtain rfl := Option.some.inj H
      go_enter Tryd.func6, Tryd.ntmps6
      go_wp2_with (first | ((with_reducible refine gate_dst (N := 1) rfl ?_); refine box_event ?hg (N := 1) ?hd (cs := #[.string a0_0, .string a0_1, .int .i64 a0_2]) (t := 23) ?hr ?_; (case hd => rfl); (case hg => rfl); (case hr => first | (go_simp; done) | (go_simp; rfl)); intro gb162 hg w12 hbox hb; have n0_ := Aside0.mk (below_step zb0_5 hb); have n1_ := Aside0.mk (hbox); have n2_ := Aside0.mk ((zb1_5 : w.heap.size ≤ gb162)); have n3_ := Aside0.mk ((zb1_5 : w.heap.size ≤ gb162)); clear HB; have HB := n0_; have BK162 := n1_; have GW162 := n2_; have GE162 := n3_; clear n0_ n1_ n2_ n3_; clear hb hbox hg; have hcz13_0 := bcq_5 BK162.out 0; have hcz13_1 := bcq_5 BK162.out 1; have hcz13_2 := bcq_5 BK162.out 2; have hfz13_0 := blk_frozen BK162.out 0; have hfz13_1 := blk_frozen BK162.out 1; have hfz13_2 := blk_frozen BK162.out 2) | ((with_reducible refine gate_callee (f := 22) rfl ?_); refine goesL_ (some 8) rfl rfl Tryd.func22 (by kernel_rfl) rfl #[.agg #[.string a0_0, .string a0_1, .int .i64 a0_2], .int .i64 1048576] rfl zb2_5 ?_; (with_reducible refine (laws_szHead.calls a0_0 a0_1 a0_2 1048576 t163 _ A2.out).mono ?_); rintro e w14 ⟨rfl, hb⟩; refine ⟨_, rfl, ?_⟩; have n0_ := Aside0.mk (blk_below (g := gb162) (o := .cells #[.string a0_0, .string a0_1, .int .i64 a0_2] 23 (0, 0)) zb6_5 hb); have n1_ := Aside0.mk (below_step zb7_5 hb); clear BK162; clear HB; have BK162 := n0_; have HB := n1_; clear n0_ n1_; (try clear hb); (try clear hb2); (try clear hk); (try clear hi); have hcz15_0 := bcq_5 BK162.out 0; have hcz15_1 := bcq_5 BK162.out 1; have hcz15_2 := bcq_5 BK162.out 2; have hfz15_0 := blk_frozen BK162.out 0; have hfz15_1 := blk_frozen BK162.out 1; have hfz15_2 := blk_frozen BK162.out 2) | ((with_reducible refine gate_callee (f := 24) rfl ?_); refine goesL_ (some 12) rfl rfl Tryd.func24 (by kernel_rfl) rfl #[.agg #[.string a0_0, .string a0_1, .int .i64 a0_2]] rfl zb2_5 ?_; (with_reducible refine (laws_toHead.calls a0_0 a0_1 a0_2 t164 t165 t166 _ A7.out).mono ?_); rintro e w16 ⟨rfl, hb⟩; refine ⟨_, rfl, ?_⟩; have n0_ := Aside0.mk (blk_below (g := gb162) (o := .cells #[.string a0_0, .string a0_1, .int .i64 a0_2] 23 (0, 0)) zb6_5 hb); have n1_ := Aside0.mk (below_step zb7_5 hb); clear BK162; clear HB; have BK162 := n0_; have HB := n1_; clear n0_ n1_; (try clear hb); (try clear hb2); (try clear hk); (try clear hi)) | ((with_reducible refine gate_callee (f := 23) rfl ?_); refine goesL_ (some 13) rfl rfl Tryd.func23 (by kernel_rfl) rfl #[.agg #[.string t164, .string t165, .int .i64 t166]] rfl zb2_5 ?_; (with_reducible refine (spec_HeadText.calls k t164 t165 t166 t167 _ A8.out).mono ?_); rintro e w17 ⟨rfl, hb⟩; refine ⟨_, rfl, ?_⟩; have n0_ := Aside0.mk (blk_below (g := gb162) (o := .cells #[.string a0_0, .string a0_1, .int .i64 a0_2] 23 (0, 0)) zb6_5 hb); have n1_ := Aside0.mk (below_step zb7_5 hb); clear BK162; clear HB; have BK162 := n0_; have HB := n1_; clear n0_ n1_; (try clear hb); (try clear hb2); (try clear hk); (try clear hi); have hcz18_0 := bcq_5 BK162.out 0; have hcz18_1 := bcq_5 BK162.out 1; have hcz18_2 := bcq_5 BK162.out 2; have hfz18_0 := blk_frozen BK162.out 0; have hfz18_1 := blk_frozen BK162.out 1; have hfz18_2 := blk_frozen BK162.out 2) | ((with_reducible refine gate_callee (f := 24) rfl ?_); refine goesL_ (some 15) rfl rfl Tryd.func24 (by kernel_rfl) rfl #[.agg #[.string a0_0, .string a0_1, .int .i64 a0_2]] rfl zb2_5 ?_; (with_reducible refine (laws_toHead.calls a0_0 a0_1 a0_2 t168 t169 t170 _ A9.out).mono ?_); rintro e w19 ⟨rfl, hb⟩; refine ⟨_, rfl, ?_⟩; have n0_ := Aside0.mk (blk_below (g := gb162) (o := .cells #[.string a0_0, .string a0_1, .int .i64 a0_2] 23 (0, 0)) zb6_5 hb); have n1_ := Aside0.mk (below_step zb7_5 hb); clear BK162; clear HB; have BK162 := n0_; have HB := n1_; clear n0_ n1_; (try clear hb); (try clear hb2); (try clear hk); (try clear hi)) | ((with_reducible refine gate_callee (f := 25) rfl ?_); refine goesL_ (some 16) rfl rfl Tryd.func25 (by kernel_rfl) rfl #[.agg #[.string t168, .string t169, .int .i64 t170]] rfl zb2_5 ?_; (with_reducible refine (impl_HeadText.calls k t168 t169 t170 t171 _ A10.out (by first | exact hmx | exact hmx.below HB.out | exact hmx.below (by repeat (first | (with_reducible first | exact HB.out | apply below_alloc | apply pw_below_drewN | apply below_drew1 | refine below_set ?_ GE162.out | exact Below.refl _ _) | exact HB.out | exact Below.refl _ _)))).mono ?_); rintro e w20 ⟨rfl, hb⟩; refine ⟨_, rfl, ?_⟩; have n0_ := Aside0.mk (blk_below (g := gb162) (o := .cells #[.string a0_0, .string a0_1, .int .i64 a0_2] 23 (0, 0)) zb6_5 hb); have n1_ := Aside0.mk (below_step zb7_5 hb); clear BK162; clear HB; have BK162 := n0_; have HB := n1_; clear n0_ n1_; (try clear hb); (try clear hb2); (try clear hk); (try clear hi)))
      go_ret
      exact ⟨by first | rfl | (simp [errW_none, errW_some] <;> rfl) | (simp [*, errW_none, errW_some] <;> rfl), by repeat (first | (with_reducible first | exact HB.out | apply below_alloc | apply pw_below_drewN | apply below_drew1 | refine below_set ?_ GE162.out) | exact HB.out)⟩
    · rw [if_neg c11] at H
      have c11b0 : (t171.toList == t167.toList) = false := beq_eq_false_iff_ne.mpr c11
      have c11b1 : (t171.toList != t167.toList) = true := bne_iff_ne.mpr c11
      exact absurd ((Option.some.inj H).trans hrt.out) (by decide)

end Go.Proofs.YtjchggdekbnmnaaDoor.QFnExactHeadText
