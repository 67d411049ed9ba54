-- laid by this session's own runner (wip/print2.py): not a printed file
import Derived.Test.YtfijkimkdccioaaDoorQFnDialbackx0
import Derived.Test.YtfijkimkdccioaaDoorQFnDialbackx4
import Derived.Test.YtfijkimkdccioaaDoorQFnDialbackx5
import Derived.Test.YtfijkimkdccioaaDoorQFnDialbackx6
import Derived.Test.YtfijkimkdccioaaDoorQFnDialbackx8
import Derived.Test.YtfijkimkdccioaaDoorQFnDialbackx10
import Derived.Test.YtfijkimkdccioaaDoorQFnDialbackx11
import Derived.Test.YtfijkimkdccioaaDoorQFnDialbackx12
import Derived.Test.YtfijkimkdccioaaDoorQFnDialbackx13
import Derived.Test.YtfijkimkdccioaaDoorQFnDialbackx14
import Derived.Test.YtfijkimkdccioaaDoorQFnDialbackx15
import Derived.Test.YtfijkimkdccioaaDoorQFnDialbackx16
namespace Go.Proofs.YtfijkimkdccioaaDoor.QFnDialback
open Go.RowKit Go.Proofs.YtfijkimkdccioaaDoorW.PrintWords Go.Proofs.YtfijkimkdccioaaDoorW.PrintLast Go.Proofs.YtfijkimkdccioaaDoorW.PrintMore
attribute [local go_sem] max2_int min2_int max_two min_two max_three min_three max_four min_four   -- for this text's walks alone
set_option linter.unusedVariables false
set_option linter.unusedSimpArgs false

abbrev zm0_17 : Array Bool := pm 0 59
abbrev zm1_17 : Array Bool := pm 1 58
abbrev zm2_17 : Array Bool := #[I,O,O,I,O,O,O,O,O,O,O,O,O,O,O,O,O,O,O,O,O,O,O,O,O,O,O,O,O,O,O,O,O,O,O,O,O,O,O,O,O,O,O,O,O,O,O,O,O,O,O,O,O,O,O,O,O,O,O]
abbrev zm3_17 : Array Bool := #[I,I,O,I,O,O,O,O,O,O,O,O,O,O,O,O,O,O,O,O,O,O,O,O,O,O,O,O,O,O,O,O,O,O,O,O,O,O,O,O,O,O,O,O,O,O,O,O,O,O,O,O,O,O,O,O,O,O,O]
abbrev zm4_17 : Array Bool := pm 4 55
abbrev zm5_17 : Array Bool := pm 5 54
abbrev zm6_17 : Array Bool := pm 6 53
abbrev zm7_17 : Array Bool := pm 7 52
abbrev zm8_17 : Array Bool := pm 8 51
abbrev zm9_17 : Array Bool := pm 9 50
abbrev zm10_17 : Array Bool := #[I,I,I,I,I,I,I,I,I,O,O,I,O,O,O,O,O,O,O,O,O,O,O,O,O,O,O,O,O,O,O,O,O,O,O,O,O,O,O,O,O,O,O,O,O,O,O,O,O,O,O,O,O,O,O,O,O,O,O]
abbrev zm11_17 : Array Bool := #[I,I,I,I,I,I,I,I,I,I,O,I,O,O,O,O,O,O,O,O,O,O,O,O,O,O,O,O,O,O,O,O,O,O,O,O,O,O,O,O,O,O,O,O,O,O,O,O,O,O,O,O,O,O,O,O,O,O,O]
abbrev zm12_17 : Array Bool := pm 12 47
abbrev zm13_17 : Array Bool := pm 13 46
abbrev zm14_17 : Array Bool := pm 14 45
abbrev zm15_17 : Array Bool := pm 15 44
abbrev zm16_17 : Array Bool := pm 16 43
abbrev zm17_17 : Array Bool := pm 17 42
abbrev zm18_17 : Array Bool := pm 18 41
abbrev zm19_17 : Array Bool := pm 19 40
abbrev zm20_17 : Array Bool := #[I,I,I,I,I,I,I,I,I,I,I,I,I,I,I,I,I,I,I,O,O,I,O,O,O,O,O,O,O,O,O,O,O,O,O,O,O,O,O,O,O,O,O,O,O,O,O,O,O,O,O,O,O,O,O,O,O,O,O]
abbrev zm21_17 : Array Bool := #[I,I,I,I,I,I,I,I,I,I,I,I,I,I,I,I,I,I,I,O,O,I,I,O,O,O,O,O,O,O,O,O,O,O,O,O,O,O,O,O,O,O,O,O,O,O,O,O,O,O,O,O,O,O,O,O,O,O,O]
abbrev zm22_17 : Array Bool := #[I,I,I,I,I,I,I,I,I,I,I,I,I,I,I,I,I,I,I,I,O,I,I,O,O,O,O,O,O,O,O,O,O,O,O,O,O,O,O,O,O,O,O,O,O,O,O,O,O,O,O,O,O,O,O,O,O,O,O]
abbrev zm23_17 : Array Bool := pm 23 36
abbrev zm24_17 : Array Bool := pm 24 35
abbrev zm25_17 : Array Bool := pm 25 34
abbrev zm26_17 : Array Bool := pm 26 33
abbrev zm27_17 : Array Bool := pm 27 32
abbrev zm28_17 : Array Bool := pm 28 31
abbrev zm29_17 : Array Bool := pm 29 30
abbrev zm30_17 : Array Bool := #[I,I,I,I,I,I,I,I,I,I,I,I,I,I,I,I,I,I,I,I,I,I,I,I,I,I,I,I,I,O,O,I,O,O,O,O,O,O,O,O,O,O,O,O,O,O,O,O,O,O,O,O,O,O,O,O,O,O,O]
abbrev zm31_17 : Array Bool := #[I,I,I,I,I,I,I,I,I,I,I,I,I,I,I,I,I,I,I,I,I,I,I,I,I,I,I,I,I,O,O,I,I,O,O,O,O,O,O,O,O,O,O,O,O,O,O,O,O,O,O,O,O,O,O,O,O,O,O]
abbrev zm32_17 : Array Bool := #[I,I,I,I,I,I,I,I,I,I,I,I,I,I,I,I,I,I,I,I,I,I,I,I,I,I,I,I,I,I,O,I,I,O,O,O,O,O,O,O,O,O,O,O,O,O,O,O,O,O,O,O,O,O,O,O,O,O,O]
abbrev zm33_17 : Array Bool := pm 33 26
abbrev zm34_17 : Array Bool := pm 34 25
abbrev zm35_17 : Array Bool := pm 35 24
abbrev zm36_17 : Array Bool := pm 36 23
abbrev zm37_17 : Array Bool := pm 37 22
abbrev zm38_17 : Array Bool := pm 38 21
abbrev zm39_17 : Array Bool := pm 39 20
abbrev zm40_17 : Array Bool := pm 40 19
abbrev zm41_17 : Array Bool := #[I,I,I,I,I,I,I,I,I,I,I,I,I,I,I,I,I,I,I,I,I,I,I,I,I,I,I,I,I,I,I,I,I,I,I,I,I,I,I,I,O,O,I,O,O,O,O,O,O,O,O,O,O,O,O,O,O,O,O]
abbrev zm42_17 : Array Bool := #[I,I,I,I,I,I,I,I,I,I,I,I,I,I,I,I,I,I,I,I,I,I,I,I,I,I,I,I,I,I,I,I,I,I,I,I,I,I,I,I,O,O,I,I,O,O,O,O,O,O,O,O,O,O,O,O,O,O,O]
abbrev zm43_17 : Array Bool := #[I,I,I,I,I,I,I,I,I,I,I,I,I,I,I,I,I,I,I,I,I,I,I,I,I,I,I,I,I,I,I,I,I,I,I,I,I,I,I,I,I,O,I,I,O,O,O,O,O,O,O,O,O,O,O,O,O,O,O]
abbrev zm44_17 : Array Bool := pm 44 15
abbrev zm45_17 : Array Bool := pm 45 14
abbrev zm46_17 : Array Bool := pm 46 13
abbrev zm47_17 : Array Bool := pm 47 12
abbrev zm48_17 : Array Bool := pm 48 11
abbrev zm49_17 : Array Bool := pm 49 10
abbrev zm50_17 : Array Bool := pm 50 9
abbrev zm51_17 : Array Bool := #[I,I,I,I,I,I,I,I,I,I,I,I,I,I,I,I,I,I,I,I,I,I,I,I,I,I,I,I,I,I,I,I,I,I,I,I,I,I,I,I,I,I,I,I,I,I,I,I,I,I,O,O,I,O,O,O,O,O,O]
abbrev zm52_17 : Array Bool := #[I,I,I,I,I,I,I,I,I,I,I,I,I,I,I,I,I,I,I,I,I,I,I,I,I,I,I,I,I,I,I,I,I,I,I,I,I,I,I,I,I,I,I,I,I,I,I,I,I,I,O,O,I,I,O,O,O,O,O]
abbrev zm53_17 : Array Bool := #[I,I,I,I,I,I,I,I,I,I,I,I,I,I,I,I,I,I,I,I,I,I,I,I,I,I,I,I,I,I,I,I,I,I,I,I,I,I,I,I,I,I,I,I,I,I,I,I,I,I,I,O,I,I,O,O,O,O,O]
abbrev zm54_17 : Array Bool := pm 54 5
abbrev zm55_17 : Array Bool := pm 55 4
abbrev zm56_17 : Array Bool := pm 56 3
abbrev zm57_17 : Array Bool := pm 57 2
abbrev zm58_17 : Array Bool := pm 58 1
abbrev zm59_17 : Array Bool := pm 59 0
abbrev zm60_17 : Array Bool := pm 51 8
abbrev zm61_17 : Array Bool := pm 52 7
abbrev zm62_17 : Array Bool := pm 53 6
abbrev zm63_17 : Array Bool := pm 41 18
abbrev zm64_17 : Array Bool := pm 42 17
abbrev zm65_17 : Array Bool := pm 43 16
abbrev zm66_17 : Array Bool := pm 30 29
abbrev zm67_17 : Array Bool := pm 31 28
abbrev zm68_17 : Array Bool := pm 32 27
abbrev zm69_17 : Array Bool := pm 20 39
abbrev zm70_17 : Array Bool := pm 21 38
abbrev zm71_17 : Array Bool := pm 22 37
abbrev zm72_17 : Array Bool := pm 10 49
abbrev zm73_17 : Array Bool := pm 11 48
abbrev zm74_17 : Array Bool := pm 0 21
abbrev zm75_17 : Array Bool := #[O,I,O,O,O,O,O,O,O,O,O,O,O,O,O,O,O,O,O,O,O]
abbrev zm76_17 : Array Bool := #[O,I,I,O,O,O,O,O,O,O,O,O,O,O,O,O,O,O,O,O,O]
abbrev zm77_17 : Array Bool := #[O,I,I,O,O,I,O,O,O,O,O,O,O,O,O,O,O,O,O,O,O]
abbrev zm78_17 : Array Bool := #[O,I,I,O,O,I,I,O,O,O,O,O,O,O,O,O,O,O,O,O,O]
abbrev zm79_17 : Array Bool := #[I,I,I,O,O,I,I,O,O,O,O,O,O,O,O,O,O,O,O,O,O]
abbrev zm80_17 : Array Bool := #[I,I,I,O,I,I,I,O,O,O,O,O,O,O,O,O,O,O,O,O,O]
abbrev zm81_17 : Array Bool := pm 7 14
abbrev zm82_17 : Array Bool := pm 8 13
abbrev zm83_17 : Array Bool := pm 9 12
abbrev zm84_17 : Array Bool := pm 10 11
abbrev zm85_17 : Array Bool := pm 11 10
abbrev zm86_17 : Array Bool := pm 12 9
abbrev zm87_17 : Array Bool := pm 13 8
abbrev zm88_17 : Array Bool := pm 14 7
abbrev zm89_17 : Array Bool := pm 15 6
abbrev zm90_17 : Array Bool := pm 16 5
abbrev zm91_17 : Array Bool := pm 17 4
abbrev zm92_17 : Array Bool := pm 18 3
abbrev zm93_17 : Array Bool := pm 19 2
abbrev zm94_17 : Array Bool := pm 20 1
abbrev zm95_17 : Array Bool := pm 21 0
abbrev zm96_17 : Array Bool := #[I,I,I,I,I,I,I,I,I,I,I,O,I,O,O,O,O,O,O,O,O]
abbrev zm97_17 : Array Bool := pm 0 17
abbrev zm98_17 : Array Bool := #[O,I,O,O,O,O,O,O,O,O,O,O,O,O,O,O,O]
abbrev zm99_17 : Array Bool := #[O,I,I,O,O,O,O,O,O,O,O,O,O,O,O,O,O]
abbrev zm100_17 : Array Bool := #[O,I,I,O,O,I,O,O,O,O,O,O,O,O,O,O,O]
abbrev zm101_17 : Array Bool := #[O,I,I,O,O,I,I,O,O,O,O,O,O,O,O,O,O]
abbrev zm102_17 : Array Bool := #[I,I,I,O,O,I,I,O,O,O,O,O,O,O,O,O,O]
abbrev zm103_17 : Array Bool := #[I,I,I,O,I,I,I,O,O,O,O,O,O,O,O,O,O]
abbrev zm104_17 : Array Bool := pm 7 10
abbrev zm105_17 : Array Bool := pm 8 9
abbrev zm106_17 : Array Bool := pm 9 8
abbrev zm107_17 : Array Bool := pm 10 7
abbrev zm108_17 : Array Bool := pm 11 6
abbrev zm109_17 : Array Bool := #[I,I,I,I,I,I,I,I,I,I,I,O,I,O,O,O,O]
abbrev zm110_17 : Array Bool := pm 13 4
abbrev zm111_17 : Array Bool := pm 14 3
abbrev zm112_17 : Array Bool := pm 15 2
abbrev zm113_17 : Array Bool := pm 16 1
abbrev zm114_17 : Array Bool := pm 17 0
theorem bcq_17 {w : World} {g t : Nat} {cs : Array Value} {v : Value} (h : w.heap[g]? = some (.cells cs t (0, 0))) (j : Nat) (e : cs[j]? = some v := by rfl) : w.cell? ⟨g, j, none⟩ = some v := (blk_cell h j).trans e
theorem zb0_17 {P : Prop} (h : P := by rfl) : P := h
theorem zb1_17 {P : Prop} (h : P := by (try simp only [List.map_toArray, List.map_cons, List.map_nil]); rfl) : P := h
theorem zb2_17 {P : Prop} (h : P := by repeat ((with_reducible (exact HB.out)))) : P := h
theorem zb3_17 {P : Prop} (h : P := by exact HO582.out) : P := h
theorem zb4_17 {P : Prop} (h : P := by first | exact hmx.below HB.out | exact hmx.below (by repeat ((with_reducible first | exact HB.out | refine below_set ?_ GE584.out | refine below_set ?_ GE600.out | refine below_set ?_ GE616.out | refine below_set ?_ GE697.out)))) : P := h
theorem zb5_17 {P : Prop} (h : P := by exact (Kd.R_mono (rfa (rfa (rfa (Kd.R_types HO582.out BK584.out (by decide)) (fun _ h => h.2)) (fun _ h => h.2)) (fun _ h => h.2)) (fun _ h_ => h_.1))) : P := h
theorem zb6_17 {P : Prop} (h : P := by repeat ((with_reducible first | exact HB.out | refine below_set ?_ GE584.out))) : P := h
theorem zb7_17 {P : Prop} (h : P := by exact HO589.out) : P := h
theorem zb8_17 {P : Prop} (h : P := by exact BK584.out) : P := h
theorem zb9_17 {P : Prop} (h : P := by rw [hg]; exact Nat.ne_of_lt (blk_lt (g := gb584) (o := .cells #[.string t578, .int .i64 t579, .slice Ao16 t580.length co16] 25 (0, 0)) (by exact BK584.out))) : P := h
theorem zb10_17 {P : Prop} (h : P := by rw [hg]; exact Nat.ne_of_gt (blk_lt (g := gb584) (o := .cells #[.string t578, .int .i64 t579, .slice Ao16 t580.length co16] 25 (0, 0)) (by exact BK584.out))) : P := h
theorem zb11_17 {P : Prop} (h : P := by repeat ((with_reducible first | exact HB.out | refine below_set ?_ GE592.out))) : P := h
theorem zb12_17 {P : Prop} (h : P := by exact HO597.out) : P := h
theorem zb13_17 {P : Prop} (h : P := by exact BK592.out) : P := h
theorem zb14_17 {P : Prop} (h : P := by rw [hg]; exact Nat.ne_of_lt (blk_lt (g := gb592) (o := .cells #[.string t585, .int .i64 t586, .slice Ao21 t587.length co21, .int .i64 t590, .int .i64 t591] 29 (0, 0)) (by exact BK592.out))) : P := h
theorem zb15_17 {P : Prop} (h : P := by rw [hg]; exact Nat.ne_of_gt (blk_lt (g := gb592) (o := .cells #[.string t585, .int .i64 t586, .slice Ao21 t587.length co21, .int .i64 t590, .int .i64 t591] 29 (0, 0)) (by exact BK592.out))) : P := h
theorem zb16_17 {P : Prop} (h : P := by exact (Kd.R_mono (rfa (rfa (rfa (Kd.R_types HO597.out BK600.out (by decide)) (fun _ h => h.2)) (fun _ h => h.2)) (fun _ h => h.2)) (fun _ h_ => h_.1))) : P := h
theorem zb17_17 {P : Prop} (h : P := by repeat ((with_reducible first | exact HB.out | refine below_set ?_ GE600.out))) : P := h
theorem zb18_17 {P : Prop} (h : P := by exact HO605.out) : P := h
theorem zb19_17 {P : Prop} (h : P := by exact BK600.out) : P := h
theorem zb20_17 {P : Prop} (h : P := by rw [hg]; exact Nat.ne_of_lt (blk_lt (g := gb600) (o := .cells #[.string t593, .int .i64 t594, .slice Ao27 t595.length co27] 25 (0, 0)) (by exact BK600.out))) : P := h
theorem zb21_17 {P : Prop} (h : P := by rw [hg]; exact Nat.ne_of_gt (blk_lt (g := gb600) (o := .cells #[.string t593, .int .i64 t594, .slice Ao27 t595.length co27] 25 (0, 0)) (by exact BK600.out))) : P := h
theorem zb22_17 {P : Prop} (h : P := by repeat ((with_reducible first | exact HB.out | refine below_set ?_ GE608.out))) : P := h
theorem zb23_17 {P : Prop} (h : P := by exact HO613.out) : P := h
theorem zb24_17 {P : Prop} (h : P := by exact BK608.out) : P := h
theorem zb25_17 {P : Prop} (h : P := by rw [hg]; exact Nat.ne_of_lt (blk_lt (g := gb608) (o := .cells #[.string t601, .int .i64 t602, .slice Ao34 t603.length co34, .int .i64 t606, .int .i64 t607] 29 (0, 0)) (by exact BK608.out))) : P := h
theorem zb26_17 {P : Prop} (h : P := by rw [hg]; exact Nat.ne_of_gt (blk_lt (g := gb608) (o := .cells #[.string t601, .int .i64 t602, .slice Ao34 t603.length co34, .int .i64 t606, .int .i64 t607] 29 (0, 0)) (by exact BK608.out))) : P := h
theorem zb27_17 {P : Prop} (h : P := by exact (Kd.R_mono (rfa (rfa (rfa (Kd.R_types HO613.out BK616.out (by decide)) (fun _ h => h.2)) (fun _ h => h.2)) (fun _ h => h.2)) (fun _ h_ => h_.1))) : P := h
theorem zb28_17 {P : Prop} (h : P := by repeat ((with_reducible first | exact HB.out | refine below_set ?_ GE616.out))) : P := h
theorem zb29_17 {P : Prop} (h : P := by exact HO621.out) : P := h
theorem zb30_17 {P : Prop} (h : P := by exact BK616.out) : P := h
theorem zb31_17 {P : Prop} (h : P := by rw [hg]; exact Nat.ne_of_lt (blk_lt (g := gb616) (o := .cells #[.string t609, .int .i64 t610, .slice Ao42 t611.length co42] 25 (0, 0)) (by exact BK616.out))) : P := h
theorem zb32_17 {P : Prop} (h : P := by rw [hg]; exact Nat.ne_of_gt (blk_lt (g := gb616) (o := .cells #[.string t609, .int .i64 t610, .slice Ao42 t611.length co42] 25 (0, 0)) (by exact BK616.out))) : P := h
theorem zb33_17 {P : Prop} (h : P := by repeat ((with_reducible (exact HB.out)))) : P := h
theorem zb34_17 {P : Prop} (h : P := by exact BK624.out) : P := h
theorem zb35_17 {P : Prop} (h : P := by exact HO629.out) : P := h
theorem zb36_17 {P : Prop} (h : P := by exact HO636.out) : P := h
theorem zb37_17 {P : Prop} (h : P := by exact HO644.out) : P := h
theorem zb38_17 {P : Prop} (h : P := by exact HO651.out) : P := h
theorem zb39_17 {P : Prop} (h : P := by exact HO659.out) : P := h
theorem zb40_17 {P : Prop} (h : P := by exact HO_585002.out) : P := h
theorem zb41_17 {P : Prop} (h : P := by exact HO_593002.out) : P := h
theorem zb42_17 {P : Prop} (h : P := by exact HO_601002.out) : P := h
theorem zb43_17 {P : Prop} (h : P := by exact HO_609002.out) : P := h
theorem zb44_17 {P : Prop} (h : P := by exact HO_617002.out) : P := h
theorem zb45_17 {P : Prop} (h : P := by exact HO_625002.out) : P := h
theorem zb46_17 {P : Prop} (h : P := by exact HO684.out) : P := h
theorem zb47_17 {P : Prop} (h : P := by exact BK687.out) : P := h
theorem zb48_17 {P : Prop} (h : P := by repeat ((with_reducible (exact HB.out)))) : P := h
theorem zb49_17 {P : Prop} (h : P := by exact HO_688002.out) : P := h
theorem zb50_17 {P : Prop} (h : P := by (with_reducible assumption)) : P := h
theorem zb51_17 {P : Prop} (h : P := by rw [hg]; exact (below_size (by repeat ((with_reducible (exact HB.out)))))) : P := h
theorem zk0_17 {P : Prop} (h : P := by exact ⟨(blk_cell BK592.out 0).trans rfl, (blk_cell BK592.out 1).trans rfl, (blk_cell BK592.out 2).trans rfl, (blk_cell BK592.out 3).trans rfl, (blk_cell BK592.out 4).trans rfl, (blk_cell BK584.out 0).trans rfl, (blk_cell BK584.out 1).trans rfl, (blk_cell BK584.out 2).trans rfl, (blk_cell BK608.out 0).trans rfl, (blk_cell BK608.out 1).trans rfl, (blk_cell BK608.out 2).trans rfl, (blk_cell BK608.out 3).trans rfl, (blk_cell BK608.out 4).trans rfl, (blk_cell BK600.out 0).trans rfl, (blk_cell BK600.out 1).trans rfl, (blk_cell BK600.out 2).trans rfl, (blk_cell BK624.out 0).trans rfl, (blk_cell BK624.out 1).trans rfl, (blk_cell BK624.out 2).trans rfl, (blk_cell BK624.out 3).trans rfl, (blk_cell BK624.out 4).trans rfl, (blk_cell BK616.out 0).trans rfl, (blk_cell BK616.out 1).trans rfl, (blk_cell BK616.out 2).trans rfl⟩) : P := h
theorem zk1_17 {P : Prop} (h : P := by exact ⟨(blk_cell BK687.out 0).trans rfl, (blk_cell BK687.out 1).trans rfl, (blk_cell BK687.out 2).trans rfl, (blk_cell BK624.out 0).trans rfl, (blk_cell BK624.out 1).trans rfl, (blk_cell BK624.out 2).trans rfl, (blk_cell BK624.out 3).trans rfl, (blk_cell BK624.out 4).trans rfl⟩) : P := h
theorem zk2_17 {P : Prop} (h : P := by exact ⟨(blk_cell BK687.out 0).trans rfl, (blk_cell BK687.out 1).trans rfl, (blk_cell BK687.out 2).trans rfl⟩) : P := h
/-! ### laws_FnDialback: function 3 -/
mutual
def laws_FnDialback.j0 : Nat → List Int → List Int → Bool → Option (Bool)
 | 0, _, _, _ => none
 | k + 1, x0, x1, x28 => if x28 = true then (some true) else ((spec_DrawDbOpen.f k x0).bind fun bt578 => ((impl_DbOpen.f k bt578.1 bt578.2.1 bt578.2.2.1 bt578.2.2.2).bind fun bt585 => ((spec_DrawDbResult.f k x1).bind fun bt593 => ((impl_DbResult.f k bt593.1 bt593.2.1 bt593.2.2.1 bt593.2.2.2.1 bt593.2.2.2.2).bind fun bt601 => ((spec_DrawDbVerified.f k x1).bind fun bt609 => ((impl_DbVerified.f k bt609.1 bt609.2.1 bt609.2.2.1 bt609.2.2.2.1 bt609.2.2.2.2).bind fun bt617 => ((spec_DbOpen.f k bt578.1 bt578.2.1 bt578.2.2.1 bt578.2.2.2).bind fun bt625 => (if bt585.2.2.2.2 = bt625.2.2.2.2 then ((spec_DbOpen.f k bt578.1 bt578.2.1 bt578.2.2.1 bt578.2.2.2).bind fun bt632 => ((laws_lwDialback.f k bt585.1 bt585.2.1 bt585.2.2.1 bt632.1 bt632.2.1 bt632.2.2.1).bind fun t639 => (if t639 = true then ((spec_DbResult.f k bt593.1 bt593.2.1 bt593.2.2.1 bt593.2.2.2.1 bt593.2.2.2.2).bind fun bt640 => (if bt601.2.2.2.2 = bt640.2.2.2.2 then ((spec_DbResult.f k bt593.1 bt593.2.1 bt593.2.2.1 bt593.2.2.2.1 bt593.2.2.2.2).bind fun bt647 => ((laws_lwDialback.f k bt601.1 bt601.2.1 bt601.2.2.1 bt647.1 bt647.2.1 bt647.2.2.1).bind fun t654 => (if t654 = true then ((spec_DbVerified.f k bt609.1 bt609.2.1 bt609.2.2.1 bt609.2.2.2.1 bt609.2.2.2.2).bind fun bt655 => (if bt617.2.2.2.2 = bt655.2.2.2.2 then ((spec_DbVerified.f k bt609.1 bt609.2.1 bt609.2.2.1 bt609.2.2.2.1 bt609.2.2.2.2).bind fun bt662 => ((laws_lwDialback.f k bt617.1 bt617.2.1 bt617.2.2.1 bt662.1 bt662.2.1 bt662.2.2.1).bind fun t669 => (laws_FnDialback.j1 k x0 bt578.2.2.2 bt593.2.2.2.1 bt593.2.2.2.2 bt609.2.2.2.1 bt609.2.2.2.2 (!t669) bt578.1 bt578.2.1 bt578.2.2.1 bt585.1 bt585.2.1 bt585.2.2.1 bt585.2.2.2.1 bt585.2.2.2.2 bt601.1 bt601.2.1 bt601.2.2.1 bt601.2.2.2.1 bt601.2.2.2.2 bt617.1 bt617.2.1 bt617.2.2.1 bt617.2.2.2.1 bt617.2.2.2.2))) else (laws_FnDialback.j1 k x0 bt578.2.2.2 bt593.2.2.2.1 bt593.2.2.2.2 bt609.2.2.2.1 bt609.2.2.2.2 true bt578.1 bt578.2.1 bt578.2.2.1 bt585.1 bt585.2.1 bt585.2.2.1 bt585.2.2.2.1 bt585.2.2.2.2 bt601.1 bt601.2.1 bt601.2.2.1 bt601.2.2.2.1 bt601.2.2.2.2 bt617.1 bt617.2.1 bt617.2.2.1 bt617.2.2.2.1 bt617.2.2.2.2))) else (laws_FnDialback.j1 k x0 bt578.2.2.2 bt593.2.2.2.1 bt593.2.2.2.2 bt609.2.2.2.1 bt609.2.2.2.2 true bt578.1 bt578.2.1 bt578.2.2.1 bt585.1 bt585.2.1 bt585.2.2.1 bt585.2.2.2.1 bt585.2.2.2.2 bt601.1 bt601.2.1 bt601.2.2.1 bt601.2.2.2.1 bt601.2.2.2.2 bt617.1 bt617.2.1 bt617.2.2.1 bt617.2.2.2.1 bt617.2.2.2.2)))) else (laws_FnDialback.j1 k x0 bt578.2.2.2 bt593.2.2.2.1 bt593.2.2.2.2 bt609.2.2.2.1 bt609.2.2.2.2 true bt578.1 bt578.2.1 bt578.2.2.1 bt585.1 bt585.2.1 bt585.2.2.1 bt585.2.2.2.1 bt585.2.2.2.2 bt601.1 bt601.2.1 bt601.2.2.1 bt601.2.2.2.1 bt601.2.2.2.2 bt617.1 bt617.2.1 bt617.2.2.1 bt617.2.2.2.1 bt617.2.2.2.2))) else (laws_FnDialback.j1 k x0 bt578.2.2.2 bt593.2.2.2.1 bt593.2.2.2.2 bt609.2.2.2.1 bt609.2.2.2.2 true bt578.1 bt578.2.1 bt578.2.2.1 bt585.1 bt585.2.1 bt585.2.2.1 bt585.2.2.2.1 bt585.2.2.2.2 bt601.1 bt601.2.1 bt601.2.2.1 bt601.2.2.2.1 bt601.2.2.2.2 bt617.1 bt617.2.1 bt617.2.2.1 bt617.2.2.2.1 bt617.2.2.2.2)))) else (laws_FnDialback.j1 k x0 bt578.2.2.2 bt593.2.2.2.1 bt593.2.2.2.2 bt609.2.2.2.1 bt609.2.2.2.2 true bt578.1 bt578.2.1 bt578.2.2.1 bt585.1 bt585.2.1 bt585.2.2.1 bt585.2.2.2.1 bt585.2.2.2.2 bt601.1 bt601.2.1 bt601.2.2.1 bt601.2.2.2.1 bt601.2.2.2.2 bt617.1 bt617.2.1 bt617.2.2.1 bt617.2.2.2.1 bt617.2.2.2.2)))))))))
def laws_FnDialback.j1 : Nat → List Int → ByteArray → Int → ByteArray → Int → Bool → Bool → ByteArray → Int → List (S43) → ByteArray → Int → List (S43) → Int → Int → ByteArray → Int → List (S43) → Int → Int → ByteArray → Int → List (S43) → Int → Int → Option (Bool)
 | 0, _, _, _, _, _, _, _, _, _, _, _, _, _, _, _, _, _, _, _, _, _, _, _, _, _ => none
 | k + 1, x0, x6, x9, x10, x13, x14, x115, x585000, x585001, x585002, x593000, x593001, x593002, x593003, x593004, x609000, x609001, x609002, x609003, x609004, x625000, x625001, x625002, x625003, x625004 => if x115 = true then (some false) else (if x593004 = 0 then (if x593003 = x585001 then ((impl_DbTrusts.f k x593000 x593001 x593002 x6 x593003).bind fun t670 => (if t670 = true then (laws_FnDialback.j2 k x0 x9 x10 x13 x14 true x609000 x609001 x609002 x609003 x609004 x625000 x625001 x625002 x625003 x625004) else ((spec_DialbackRight.f k x593000 x593001 x593002).bind fun t671 => (laws_FnDialback.j2 k x0 x9 x10 x13 x14 (!t671) x609000 x609001 x609002 x609003 x609004 x625000 x625001 x625002 x625003 x625004)))) else (laws_FnDialback.j2 k x0 x9 x10 x13 x14 true x609000 x609001 x609002 x609003 x609004 x625000 x625001 x625002 x625003 x625004)) else (laws_FnDialback.j2 k x0 x9 x10 x13 x14 false x609000 x609001 x609002 x609003 x609004 x625000 x625001 x625002 x625003 x625004))
def laws_FnDialback.j2 : Nat → List Int → Int → ByteArray → Int → Bool → Bool → ByteArray → Int → List (S43) → Int → Int → ByteArray → Int → List (S43) → Int → Int → Option (Bool)
 | 0, _, _, _, _, _, _, _, _, _, _, _, _, _, _, _, _ => none
 | k + 1, x0, x9, x10, x13, x14, x139, x609000, x609001, x609002, x609003, x609004, x625000, x625001, x625002, x625003, x625004 => if x139 = true then (some false) else (if x609004 = 0 then ((impl_DbResult.f k x609000 x609001 x609002 x9 x10).bind fun bt672 => (if bt672.2.2.2.2 = 10 then ((spec_DialbackRight.f k x609000 x609001 x609002).bind fun t679 => (laws_FnDialback.j3 k x0 x13 x14 (!t679) x625000 x625001 x625002 x625003 x625004)) else (laws_FnDialback.j3 k x0 x13 x14 true x625000 x625001 x625002 x625003 x625004))) else (laws_FnDialback.j3 k x0 x13 x14 false x625000 x625001 x625002 x625003 x625004))
def laws_FnDialback.j3 : Nat → List Int → Int → Bool → Bool → ByteArray → Int → List (S43) → Int → Int → Option (Bool)
 | 0, _, _, _, _, _, _, _, _, _ => none
 | k + 1, x0, x13, x14, x157, x625000, x625001, x625002, x625003, x625004 => if x157 = true then (some false) else ((spec_DrawDbTrusts.f k x0).bind fun bt680 => ((impl_DbTrusts.f k bt680.1 bt680.2.1 bt680.2.2.1 bt680.2.2.2.1 bt680.2.2.2.2).bind fun t688 => ((spec_DbTrusts.f k bt680.1 bt680.2.1 bt680.2.2.1 bt680.2.2.2.1 bt680.2.2.2.2).bind fun t689 => (if (t688 != t689) = true then (laws_FnDialback.j4 k x13 x14 bt680.2.2.2.1 bt680.2.2.2.2 true x625000 x625001 x625002 x625003 x625004 bt680.1 bt680.2.1 bt680.2.2.1) else ((impl_DialbackRight.f k bt680.1 bt680.2.1 bt680.2.2.1).bind fun t690 => ((spec_DialbackRight.f k bt680.1 bt680.2.1 bt680.2.2.1).bind fun t691 => (if (t690 != t691) = true then (laws_FnDialback.j4 k x13 x14 bt680.2.2.2.1 bt680.2.2.2.2 true x625000 x625001 x625002 x625003 x625004 bt680.1 bt680.2.1 bt680.2.2.1) else (laws_FnDialback.j4 k x13 x14 bt680.2.2.2.1 bt680.2.2.2.2 (x625004 != 0) x625000 x625001 x625002 x625003 x625004 bt680.1 bt680.2.1 bt680.2.2.1))))))))
def laws_FnDialback.j4 : Nat → Int → Bool → ByteArray → Int → Bool → ByteArray → Int → List (S43) → Int → Int → ByteArray → Int → List (S43) → Option (Bool)
 | 0, _, _, _, _, _, _, _, _, _, _, _, _, _ => none
 | k + 1, x13, x14, x17, x18, x184, x625000, x625001, x625002, x625003, x625004, x688000, x688001, x688002 => if x184 = true then ((impl_DbTrusts.f k x688000 x688001 x688002 x17 x18).bind fun t692 => ((spec_DbTrusts.f k x688000 x688001 x688002 x17 x18).bind fun t693 => (if (t692 == t693) = true then ((impl_DialbackRight.f k x688000 x688001 x688002).bind fun t694 => ((spec_DialbackRight.f k x688000 x688001 x688002).bind fun t695 => (some (t694 == t695)))) else (some false)))) else (laws_FnDialback.l0 k x13 x14 0 x625000 x625001 x625002 x625003 x625004)
def laws_FnDialback.l0 : Nat → Int → Bool → Int → ByteArray → Int → List (S43) → Int → Int → Option (Bool)
 | 0, _, _, _, _, _, _, _, _ => none
 | k + 1, x13, x14, x19, x625000, x625001, x625002, x625003, x625004 => if x19 < (x625002.length : Int) then (if 0 ≤ x19 then (if ((rd_T43 x625002 x19).f1) = x13 then ((impl_DbTrusts.f k x625000 x625001 x625002 ((rd_T43 x625002 x19).f0) x13).bind fun t698 => (if (t698 != x14) = true then (some false) else (laws_FnDialback.l0 k x13 x14 (wrap64 (x19 + 1)) x625000 x625001 x625002 x625003 x625004))) else (laws_FnDialback.l0 k x13 x14 (wrap64 (x19 + 1)) x625000 x625001 x625002 x625003 x625004)) else (none)) else ((impl_DbVerified.f k x625000 x625001 x625002 x13 x14).bind fun bt699 => (some (bt699.2.2.2.2 == 10)))
end
def laws_FnDialback.f (k : Nat) (l0 : List Int) (l1 : List Int) : Option (Bool) := if (l0.length : Int) > 1048576 then (laws_FnDialback.j0 k l0 l1 true) else (laws_FnDialback.j0 k l0 l1 (decide ((l1.length : Int) > 1048576)))
theorem laws_FnDialback.mono_l : ∀ k, (∀ y0 y1 y2, LeO (laws_FnDialback.j0 k y0 y1 y2) (laws_FnDialback.j0 (k + 1) y0 y1 y2)) ∧ (∀ y0 y1 y2 y3 y4 y5 y6 y7 y8 y9 y10 y11 y12 y13 y14 y15 y16 y17 y18 y19 y20 y21 y22 y23 y24, LeO (laws_FnDialback.j1 k y0 y1 y2 y3 y4 y5 y6 y7 y8 y9 y10 y11 y12 y13 y14 y15 y16 y17 y18 y19 y20 y21 y22 y23 y24) (laws_FnDialback.j1 (k + 1) y0 y1 y2 y3 y4 y5 y6 y7 y8 y9 y10 y11 y12 y13 y14 y15 y16 y17 y18 y19 y20 y21 y22 y23 y24)) ∧ (∀ y0 y1 y2 y3 y4 y5 y6 y7 y8 y9 y10 y11 y12 y13 y14 y15, LeO (laws_FnDialback.j2 k y0 y1 y2 y3 y4 y5 y6 y7 y8 y9 y10 y11 y12 y13 y14 y15) (laws_FnDialback.j2 (k + 1) y0 y1 y2 y3 y4 y5 y6 y7 y8 y9 y10 y11 y12 y13 y14 y15)) ∧ (∀ y0 y1 y2 y3 y4 y5 y6 y7 y8, LeO (laws_FnDialback.j3 k y0 y1 y2 y3 y4 y5 y6 y7 y8) (laws_FnDialback.j3 (k + 1) y0 y1 y2 y3 y4 y5 y6 y7 y8)) ∧ (∀ y0 y1 y2 y3 y4 y5 y6 y7 y8 y9 y10 y11 y12, LeO (laws_FnDialback.j4 k y0 y1 y2 y3 y4 y5 y6 y7 y8 y9 y10 y11 y12) (laws_FnDialback.j4 (k + 1) y0 y1 y2 y3 y4 y5 y6 y7 y8 y9 y10 y11 y12)) ∧ (∀ y0 y1 y2 y3 y4 y5 y6 y7, LeO (laws_FnDialback.l0 k y0 y1 y2 y3 y4 y5 y6 y7) (laws_FnDialback.l0 (k + 1) y0 y1 y2 y3 y4 y5 y6 y7))
 | 0 => ⟨fun _ _ _ r h => by simp [laws_FnDialback.j0] at h, fun _ _ _ _ _ _ _ _ _ _ _ _ _ _ _ _ _ _ _ _ _ _ _ _ _ r h => by simp [laws_FnDialback.j1] at h, fun _ _ _ _ _ _ _ _ _ _ _ _ _ _ _ _ r h => by simp [laws_FnDialback.j2] at h, fun _ _ _ _ _ _ _ _ _ r h => by simp [laws_FnDialback.j3] at h, fun _ _ _ _ _ _ _ _ _ _ _ _ _ r h => by simp [laws_FnDialback.j4] at h, fun _ _ _ _ _ _ _ _ r h => by simp [laws_FnDialback.l0] at h⟩
 | k + 1 => by
  obtain ⟨ih0, ih1, ih2, ih3, ih4, ih5⟩ := laws_FnDialback.mono_l k
  refine ⟨?_, ?_, ?_, ?_, ?_, ?_⟩
  ·
   intro y0 y1 y2
   unfold laws_FnDialback.j0
   repeat' first
   | (with_reducible exact ih0 _ _ _)
   | (with_reducible exact ih1 _ _ _ _ _ _ _ _ _ _ _ _ _ _ _ _ _ _ _ _ _ _ _ _ _)
   | (with_reducible exact ih2 _ _ _ _ _ _ _ _ _ _ _ _ _ _ _ _)
   | (with_reducible exact ih3 _ _ _ _ _ _ _ _ _)
   | (with_reducible exact ih4 _ _ _ _ _ _ _ _ _ _ _ _ _)
   | (with_reducible exact ih5 _ _ _ _ _ _ _ _)
   | (with_reducible exact impl_DbOpen.mono _ _ _ _ _)
   | (with_reducible exact impl_DbResult.mono _ _ _ _ _ _)
   | (with_reducible exact impl_DbTrusts.mono _ _ _ _ _ _)
   | (with_reducible exact impl_DbVerified.mono _ _ _ _ _ _)
   | (with_reducible exact impl_DialbackRight.mono _ _ _ _)
   | (with_reducible exact laws_lwDialback.mono _ _ _ _ _ _ _)
   | (with_reducible exact spec_DbOpen.mono _ _ _ _ _)
   | (with_reducible exact spec_DbResult.mono _ _ _ _ _ _)
   | (with_reducible exact spec_DbTrusts.mono _ _ _ _ _ _)
   | (with_reducible exact spec_DbVerified.mono _ _ _ _ _ _)
   | (with_reducible exact spec_DialbackRight.mono _ _ _ _)
   | (with_reducible exact spec_DrawDbOpen.mono _ _)
   | (with_reducible exact spec_DrawDbResult.mono _ _)
   | (with_reducible exact spec_DrawDbTrusts.mono _ _)
   | (with_reducible exact spec_DrawDbVerified.mono _ _)
   | (with_reducible exact LeO.refl _)
   | (with_reducible exact LeO.none _)
   | (with_reducible refine LeO.ite ?_ ?_)
   | (with_reducible refine LeO.bind ?_ (fun _ => ?_))
   | exact ih0 _ _ _
   | exact ih1 _ _ _ _ _ _ _ _ _ _ _ _ _ _ _ _ _ _ _ _ _ _ _ _ _
   | exact ih2 _ _ _ _ _ _ _ _ _ _ _ _ _ _ _ _
   | exact ih3 _ _ _ _ _ _ _ _ _
   | exact ih4 _ _ _ _ _ _ _ _ _ _ _ _ _
   | exact ih5 _ _ _ _ _ _ _ _
   | exact impl_DbOpen.mono _ _ _ _ _
   | exact impl_DbResult.mono _ _ _ _ _ _
   | exact impl_DbTrusts.mono _ _ _ _ _ _
   | exact impl_DbVerified.mono _ _ _ _ _ _
   | exact impl_DialbackRight.mono _ _ _ _
   | exact laws_lwDialback.mono _ _ _ _ _ _ _
   | exact spec_DbOpen.mono _ _ _ _ _
   | exact spec_DbResult.mono _ _ _ _ _ _
   | exact spec_DbTrusts.mono _ _ _ _ _ _
   | exact spec_DbVerified.mono _ _ _ _ _ _
   | exact spec_DialbackRight.mono _ _ _ _
   | exact spec_DrawDbOpen.mono _ _
   | exact spec_DrawDbResult.mono _ _
   | exact spec_DrawDbTrusts.mono _ _
   | exact spec_DrawDbVerified.mono _ _
   | exact LeO.none _
   | refine LeO.ite ?_ ?_
   | refine LeO.bind ?_ (fun _ => ?_)
  ·
   intro y0 y1 y2 y3 y4 y5 y6 y7 y8 y9 y10 y11 y12 y13 y14 y15 y16 y17 y18 y19 y20 y21 y22 y23 y24
   unfold laws_FnDialback.j1
   repeat' first
   | (with_reducible exact ih0 _ _ _)
   | (with_reducible exact ih1 _ _ _ _ _ _ _ _ _ _ _ _ _ _ _ _ _ _ _ _ _ _ _ _ _)
   | (with_reducible exact ih2 _ _ _ _ _ _ _ _ _ _ _ _ _ _ _ _)
   | (with_reducible exact ih3 _ _ _ _ _ _ _ _ _)
   | (with_reducible exact ih4 _ _ _ _ _ _ _ _ _ _ _ _ _)
   | (with_reducible exact ih5 _ _ _ _ _ _ _ _)
   | (with_reducible exact impl_DbOpen.mono _ _ _ _ _)
   | (with_reducible exact impl_DbResult.mono _ _ _ _ _ _)
   | (with_reducible exact impl_DbTrusts.mono _ _ _ _ _ _)
   | (with_reducible exact impl_DbVerified.mono _ _ _ _ _ _)
   | (with_reducible exact impl_DialbackRight.mono _ _ _ _)
   | (with_reducible exact laws_lwDialback.mono _ _ _ _ _ _ _)
   | (with_reducible exact spec_DbOpen.mono _ _ _ _ _)
   | (with_reducible exact spec_DbResult.mono _ _ _ _ _ _)
   | (with_reducible exact spec_DbTrusts.mono _ _ _ _ _ _)
   | (with_reducible exact spec_DbVerified.mono _ _ _ _ _ _)
   | (with_reducible exact spec_DialbackRight.mono _ _ _ _)
   | (with_reducible exact spec_DrawDbOpen.mono _ _)
   | (with_reducible exact spec_DrawDbResult.mono _ _)
   | (with_reducible exact spec_DrawDbTrusts.mono _ _)
   | (with_reducible exact spec_DrawDbVerified.mono _ _)
   | (with_reducible exact LeO.refl _)
   | (with_reducible exact LeO.none _)
   | (with_reducible refine LeO.ite ?_ ?_)
   | (with_reducible refine LeO.bind ?_ (fun _ => ?_))
   | exact ih0 _ _ _
   | exact ih1 _ _ _ _ _ _ _ _ _ _ _ _ _ _ _ _ _ _ _ _ _ _ _ _ _
   | exact ih2 _ _ _ _ _ _ _ _ _ _ _ _ _ _ _ _
   | exact ih3 _ _ _ _ _ _ _ _ _
   | exact ih4 _ _ _ _ _ _ _ _ _ _ _ _ _
   | exact ih5 _ _ _ _ _ _ _ _
   | exact impl_DbOpen.mono _ _ _ _ _
   | exact impl_DbResult.mono _ _ _ _ _ _
   | exact impl_DbTrusts.mono _ _ _ _ _ _
   | exact impl_DbVerified.mono _ _ _ _ _ _
   | exact impl_DialbackRight.mono _ _ _ _
   | exact laws_lwDialback.mono _ _ _ _ _ _ _
   | exact spec_DbOpen.mono _ _ _ _ _
   | exact spec_DbResult.mono _ _ _ _ _ _
   | exact spec_DbTrusts.mono _ _ _ _ _ _
   | exact spec_DbVerified.mono _ _ _ _ _ _
   | exact spec_DialbackRight.mono _ _ _ _
   | exact spec_DrawDbOpen.mono _ _
   | exact spec_DrawDbResult.mono _ _
   | exact spec_DrawDbTrusts.mono _ _
   | exact spec_DrawDbVerified.mono _ _
   | exact LeO.none _
   | refine LeO.ite ?_ ?_
   | refine LeO.bind ?_ (fun _ => ?_)
  ·
   intro y0 y1 y2 y3 y4 y5 y6 y7 y8 y9 y10 y11 y12 y13 y14 y15
   unfold laws_FnDialback.j2
   repeat' first
   | (with_reducible exact ih0 _ _ _)
   | (with_reducible exact ih1 _ _ _ _ _ _ _ _ _ _ _ _ _ _ _ _ _ _ _ _ _ _ _ _ _)
   | (with_reducible exact ih2 _ _ _ _ _ _ _ _ _ _ _ _ _ _ _ _)
   | (with_reducible exact ih3 _ _ _ _ _ _ _ _ _)
   | (with_reducible exact ih4 _ _ _ _ _ _ _ _ _ _ _ _ _)
   | (with_reducible exact ih5 _ _ _ _ _ _ _ _)
   | (with_reducible exact impl_DbOpen.mono _ _ _ _ _)
   | (with_reducible exact impl_DbResult.mono _ _ _ _ _ _)
   | (with_reducible exact impl_DbTrusts.mono _ _ _ _ _ _)
   | (with_reducible exact impl_DbVerified.mono _ _ _ _ _ _)
   | (with_reducible exact impl_DialbackRight.mono _ _ _ _)
   | (with_reducible exact laws_lwDialback.mono _ _ _ _ _ _ _)
   | (with_reducible exact spec_DbOpen.mono _ _ _ _ _)
   | (with_reducible exact spec_DbResult.mono _ _ _ _ _ _)
   | (with_reducible exact spec_DbTrusts.mono _ _ _ _ _ _)
   | (with_reducible exact spec_DbVerified.mono _ _ _ _ _ _)
   | (with_reducible exact spec_DialbackRight.mono _ _ _ _)
   | (with_reducible exact spec_DrawDbOpen.mono _ _)
   | (with_reducible exact spec_DrawDbResult.mono _ _)
   | (with_reducible exact spec_DrawDbTrusts.mono _ _)
   | (with_reducible exact spec_DrawDbVerified.mono _ _)
   | (with_reducible exact LeO.refl _)
   | (with_reducible exact LeO.none _)
   | (with_reducible refine LeO.ite ?_ ?_)
   | (with_reducible refine LeO.bind ?_ (fun _ => ?_))
   | exact ih0 _ _ _
   | exact ih1 _ _ _ _ _ _ _ _ _ _ _ _ _ _ _ _ _ _ _ _ _ _ _ _ _
   | exact ih2 _ _ _ _ _ _ _ _ _ _ _ _ _ _ _ _
   | exact ih3 _ _ _ _ _ _ _ _ _
   | exact ih4 _ _ _ _ _ _ _ _ _ _ _ _ _
   | exact ih5 _ _ _ _ _ _ _ _
   | exact impl_DbOpen.mono _ _ _ _ _
   | exact impl_DbResult.mono _ _ _ _ _ _
   | exact impl_DbTrusts.mono _ _ _ _ _ _
   | exact impl_DbVerified.mono _ _ _ _ _ _
   | exact impl_DialbackRight.mono _ _ _ _
   | exact laws_lwDialback.mono _ _ _ _ _ _ _
   | exact spec_DbOpen.mono _ _ _ _ _
   | exact spec_DbResult.mono _ _ _ _ _ _
   | exact spec_DbTrusts.mono _ _ _ _ _ _
   | exact spec_DbVerified.mono _ _ _ _ _ _
   | exact spec_DialbackRight.mono _ _ _ _
   | exact spec_DrawDbOpen.mono _ _
   | exact spec_DrawDbResult.mono _ _
   | exact spec_DrawDbTrusts.mono _ _
   | exact spec_DrawDbVerified.mono _ _
   | exact LeO.none _
   | refine LeO.ite ?_ ?_
   | refine LeO.bind ?_ (fun _ => ?_)
  ·
   intro y0 y1 y2 y3 y4 y5 y6 y7 y8
   unfold laws_FnDialback.j3
   repeat' first
   | (with_reducible exact ih0 _ _ _)
   | (with_reducible exact ih1 _ _ _ _ _ _ _ _ _ _ _ _ _ _ _ _ _ _ _ _ _ _ _ _ _)
   | (with_reducible exact ih2 _ _ _ _ _ _ _ _ _ _ _ _ _ _ _ _)
   | (with_reducible exact ih3 _ _ _ _ _ _ _ _ _)
   | (with_reducible exact ih4 _ _ _ _ _ _ _ _ _ _ _ _ _)
   | (with_reducible exact ih5 _ _ _ _ _ _ _ _)
   | (with_reducible exact impl_DbOpen.mono _ _ _ _ _)
   | (with_reducible exact impl_DbResult.mono _ _ _ _ _ _)
   | (with_reducible exact impl_DbTrusts.mono _ _ _ _ _ _)
   | (with_reducible exact impl_DbVerified.mono _ _ _ _ _ _)
   | (with_reducible exact impl_DialbackRight.mono _ _ _ _)
   | (with_reducible exact laws_lwDialback.mono _ _ _ _ _ _ _)
   | (with_reducible exact spec_DbOpen.mono _ _ _ _ _)
   | (with_reducible exact spec_DbResult.mono _ _ _ _ _ _)
   | (with_reducible exact spec_DbTrusts.mono _ _ _ _ _ _)
   | (with_reducible exact spec_DbVerified.mono _ _ _ _ _ _)
   | (with_reducible exact spec_DialbackRight.mono _ _ _ _)
   | (with_reducible exact spec_DrawDbOpen.mono _ _)
   | (with_reducible exact spec_DrawDbResult.mono _ _)
   | (with_reducible exact spec_DrawDbTrusts.mono _ _)
   | (with_reducible exact spec_DrawDbVerified.mono _ _)
   | (with_reducible exact LeO.refl _)
   | (with_reducible exact LeO.none _)
   | (with_reducible refine LeO.ite ?_ ?_)
   | (with_reducible refine LeO.bind ?_ (fun _ => ?_))
   | exact ih0 _ _ _
   | exact ih1 _ _ _ _ _ _ _ _ _ _ _ _ _ _ _ _ _ _ _ _ _ _ _ _ _
   | exact ih2 _ _ _ _ _ _ _ _ _ _ _ _ _ _ _ _
   | exact ih3 _ _ _ _ _ _ _ _ _
   | exact ih4 _ _ _ _ _ _ _ _ _ _ _ _ _
   | exact ih5 _ _ _ _ _ _ _ _
   | exact impl_DbOpen.mono _ _ _ _ _
   | exact impl_DbResult.mono _ _ _ _ _ _
   | exact impl_DbTrusts.mono _ _ _ _ _ _
   | exact impl_DbVerified.mono _ _ _ _ _ _
   | exact impl_DialbackRight.mono _ _ _ _
   | exact laws_lwDialback.mono _ _ _ _ _ _ _
   | exact spec_DbOpen.mono _ _ _ _ _
   | exact spec_DbResult.mono _ _ _ _ _ _
   | exact spec_DbTrusts.mono _ _ _ _ _ _
   | exact spec_DbVerified.mono _ _ _ _ _ _
   | exact spec_DialbackRight.mono _ _ _ _
   | exact spec_DrawDbOpen.mono _ _
   | exact spec_DrawDbResult.mono _ _
   | exact spec_DrawDbTrusts.mono _ _
   | exact spec_DrawDbVerified.mono _ _
   | exact LeO.none _
   | refine LeO.ite ?_ ?_
   | refine LeO.bind ?_ (fun _ => ?_)
  ·
   intro y0 y1 y2 y3 y4 y5 y6 y7 y8 y9 y10 y11 y12
   unfold laws_FnDialback.j4
   repeat' first
   | (with_reducible exact ih0 _ _ _)
   | (with_reducible exact ih1 _ _ _ _ _ _ _ _ _ _ _ _ _ _ _ _ _ _ _ _ _ _ _ _ _)
   | (with_reducible exact ih2 _ _ _ _ _ _ _ _ _ _ _ _ _ _ _ _)
   | (with_reducible exact ih3 _ _ _ _ _ _ _ _ _)
   | (with_reducible exact ih4 _ _ _ _ _ _ _ _ _ _ _ _ _)
   | (with_reducible exact ih5 _ _ _ _ _ _ _ _)
   | (with_reducible exact impl_DbOpen.mono _ _ _ _ _)
   | (with_reducible exact impl_DbResult.mono _ _ _ _ _ _)
   | (with_reducible exact impl_DbTrusts.mono _ _ _ _ _ _)
   | (with_reducible exact impl_DbVerified.mono _ _ _ _ _ _)
   | (with_reducible exact impl_DialbackRight.mono _ _ _ _)
   | (with_reducible exact laws_lwDialback.mono _ _ _ _ _ _ _)
   | (with_reducible exact spec_DbOpen.mono _ _ _ _ _)
   | (with_reducible exact spec_DbResult.mono _ _ _ _ _ _)
   | (with_reducible exact spec_DbTrusts.mono _ _ _ _ _ _)
   | (with_reducible exact spec_DbVerified.mono _ _ _ _ _ _)
   | (with_reducible exact spec_DialbackRight.mono _ _ _ _)
   | (with_reducible exact spec_DrawDbOpen.mono _ _)
   | (with_reducible exact spec_DrawDbResult.mono _ _)
   | (with_reducible exact spec_DrawDbTrusts.mono _ _)
   | (with_reducible exact spec_DrawDbVerified.mono _ _)
   | (with_reducible exact LeO.refl _)
   | (with_reducible exact LeO.none _)
   | (with_reducible refine LeO.ite ?_ ?_)
   | (with_reducible refine LeO.bind ?_ (fun _ => ?_))
   | exact ih0 _ _ _
   | exact ih1 _ _ _ _ _ _ _ _ _ _ _ _ _ _ _ _ _ _ _ _ _ _ _ _ _
   | exact ih2 _ _ _ _ _ _ _ _ _ _ _ _ _ _ _ _
   | exact ih3 _ _ _ _ _ _ _ _ _
   | exact ih4 _ _ _ _ _ _ _ _ _ _ _ _ _
   | exact ih5 _ _ _ _ _ _ _ _
   | exact impl_DbOpen.mono _ _ _ _ _
   | exact impl_DbResult.mono _ _ _ _ _ _
   | exact impl_DbTrusts.mono _ _ _ _ _ _
   | exact impl_DbVerified.mono _ _ _ _ _ _
   | exact impl_DialbackRight.mono _ _ _ _
   | exact laws_lwDialback.mono _ _ _ _ _ _ _
   | exact spec_DbOpen.mono _ _ _ _ _
   | exact spec_DbResult.mono _ _ _ _ _ _
   | exact spec_DbTrusts.mono _ _ _ _ _ _
   | exact spec_DbVerified.mono _ _ _ _ _ _
   | exact spec_DialbackRight.mono _ _ _ _
   | exact spec_DrawDbOpen.mono _ _
   | exact spec_DrawDbResult.mono _ _
   | exact spec_DrawDbTrusts.mono _ _
   | exact spec_DrawDbVerified.mono _ _
   | exact LeO.none _
   | refine LeO.ite ?_ ?_
   | refine LeO.bind ?_ (fun _ => ?_)
  ·
   intro y0 y1 y2 y3 y4 y5 y6 y7
   unfold laws_FnDialback.l0
   repeat' first
   | (with_reducible exact ih0 _ _ _)
   | (with_reducible exact ih1 _ _ _ _ _ _ _ _ _ _ _ _ _ _ _ _ _ _ _ _ _ _ _ _ _)
   | (with_reducible exact ih2 _ _ _ _ _ _ _ _ _ _ _ _ _ _ _ _)
   | (with_reducible exact ih3 _ _ _ _ _ _ _ _ _)
   | (with_reducible exact ih4 _ _ _ _ _ _ _ _ _ _ _ _ _)
   | (with_reducible exact ih5 _ _ _ _ _ _ _ _)
   | (with_reducible exact impl_DbOpen.mono _ _ _ _ _)
   | (with_reducible exact impl_DbResult.mono _ _ _ _ _ _)
   | (with_reducible exact impl_DbTrusts.mono _ _ _ _ _ _)
   | (with_reducible exact impl_DbVerified.mono _ _ _ _ _ _)
   | (with_reducible exact impl_DialbackRight.mono _ _ _ _)
   | (with_reducible exact laws_lwDialback.mono _ _ _ _ _ _ _)
   | (with_reducible exact spec_DbOpen.mono _ _ _ _ _)
   | (with_reducible exact spec_DbResult.mono _ _ _ _ _ _)
   | (with_reducible exact spec_DbTrusts.mono _ _ _ _ _ _)
   | (with_reducible exact spec_DbVerified.mono _ _ _ _ _ _)
   | (with_reducible exact spec_DialbackRight.mono _ _ _ _)
   | (with_reducible exact spec_DrawDbOpen.mono _ _)
   | (with_reducible exact spec_DrawDbResult.mono _ _)
   | (with_reducible exact spec_DrawDbTrusts.mono _ _)
   | (with_reducible exact spec_DrawDbVerified.mono _ _)
   | (with_reducible exact LeO.refl _)
   | (with_reducible exact LeO.none _)
   | (with_reducible refine LeO.ite ?_ ?_)
   | (with_reducible refine LeO.bind ?_ (fun _ => ?_))
   | exact ih0 _ _ _
   | exact ih1 _ _ _ _ _ _ _ _ _ _ _ _ _ _ _ _ _ _ _ _ _ _ _ _ _
   | exact ih2 _ _ _ _ _ _ _ _ _ _ _ _ _ _ _ _
   | exact ih3 _ _ _ _ _ _ _ _ _
   | exact ih4 _ _ _ _ _ _ _ _ _ _ _ _ _
   | exact ih5 _ _ _ _ _ _ _ _
   | exact impl_DbOpen.mono _ _ _ _ _
   | exact impl_DbResult.mono _ _ _ _ _ _
   | exact impl_DbTrusts.mono _ _ _ _ _ _
   | exact impl_DbVerified.mono _ _ _ _ _ _
   | exact impl_DialbackRight.mono _ _ _ _
   | exact laws_lwDialback.mono _ _ _ _ _ _ _
   | exact spec_DbOpen.mono _ _ _ _ _
   | exact spec_DbResult.mono _ _ _ _ _ _
   | exact spec_DbTrusts.mono _ _ _ _ _ _
   | exact spec_DbVerified.mono _ _ _ _ _ _
   | exact spec_DialbackRight.mono _ _ _ _
   | exact spec_DrawDbOpen.mono _ _
   | exact spec_DrawDbResult.mono _ _
   | exact spec_DrawDbTrusts.mono _ _
   | exact spec_DrawDbVerified.mono _ _
   | exact LeO.none _
   | refine LeO.ite ?_ ?_
   | refine LeO.bind ?_ (fun _ => ?_)
theorem laws_FnDialback.mono : ∀ a0 a1 k, LeO (laws_FnDialback.f k a0 a1) (laws_FnDialback.f (k + 1) a0 a1) := by
 intro a0 a1 k
 obtain ⟨ih0, ih1, ih2, ih3, ih4, ih5⟩ := laws_FnDialback.mono_l k
 unfold laws_FnDialback.f
 repeat' first
   | (with_reducible exact ih0 _ _ _)
   | (with_reducible exact ih1 _ _ _ _ _ _ _ _ _ _ _ _ _ _ _ _ _ _ _ _ _ _ _ _ _)
   | (with_reducible exact ih2 _ _ _ _ _ _ _ _ _ _ _ _ _ _ _ _)
   | (with_reducible exact ih3 _ _ _ _ _ _ _ _ _)
   | (with_reducible exact ih4 _ _ _ _ _ _ _ _ _ _ _ _ _)
   | (with_reducible exact ih5 _ _ _ _ _ _ _ _)
   | (with_reducible exact impl_DbOpen.mono _ _ _ _ _)
   | (with_reducible exact impl_DbResult.mono _ _ _ _ _ _)
   | (with_reducible exact impl_DbTrusts.mono _ _ _ _ _ _)
   | (with_reducible exact impl_DbVerified.mono _ _ _ _ _ _)
   | (with_reducible exact impl_DialbackRight.mono _ _ _ _)
   | (with_reducible exact laws_lwDialback.mono _ _ _ _ _ _ _)
   | (with_reducible exact spec_DbOpen.mono _ _ _ _ _)
   | (with_reducible exact spec_DbResult.mono _ _ _ _ _ _)
   | (with_reducible exact spec_DbTrusts.mono _ _ _ _ _ _)
   | (with_reducible exact spec_DbVerified.mono _ _ _ _ _ _)
   | (with_reducible exact spec_DialbackRight.mono _ _ _ _)
   | (with_reducible exact spec_DrawDbOpen.mono _ _)
   | (with_reducible exact spec_DrawDbResult.mono _ _)
   | (with_reducible exact spec_DrawDbTrusts.mono _ _)
   | (with_reducible exact spec_DrawDbVerified.mono _ _)
   | (with_reducible exact LeO.refl _)
   | (with_reducible exact LeO.none _)
   | (with_reducible refine LeO.ite ?_ ?_)
   | (with_reducible refine LeO.bind ?_ (fun _ => ?_))
   | exact ih0 _ _ _
   | exact ih1 _ _ _ _ _ _ _ _ _ _ _ _ _ _ _ _ _ _ _ _ _ _ _ _ _
   | exact ih2 _ _ _ _ _ _ _ _ _ _ _ _ _ _ _ _
   | exact ih3 _ _ _ _ _ _ _ _ _
   | exact ih4 _ _ _ _ _ _ _ _ _ _ _ _ _
   | exact ih5 _ _ _ _ _ _ _ _
   | exact impl_DbOpen.mono _ _ _ _ _
   | exact impl_DbResult.mono _ _ _ _ _ _
   | exact impl_DbTrusts.mono _ _ _ _ _ _
   | exact impl_DbVerified.mono _ _ _ _ _ _
   | exact impl_DialbackRight.mono _ _ _ _
   | exact laws_lwDialback.mono _ _ _ _ _ _ _
   | exact spec_DbOpen.mono _ _ _ _ _
   | exact spec_DbResult.mono _ _ _ _ _ _
   | exact spec_DbTrusts.mono _ _ _ _ _ _
   | exact spec_DbVerified.mono _ _ _ _ _ _
   | exact spec_DialbackRight.mono _ _ _ _
   | exact spec_DrawDbOpen.mono _ _
   | exact spec_DrawDbResult.mono _ _
   | exact spec_DrawDbTrusts.mono _ _
   | exact spec_DrawDbVerified.mono _ _
   | exact LeO.none _
   | refine LeO.ite ?_ ?_
   | refine LeO.bind ?_ (fun _ => ?_)
def laws_FnDialback.T9 : Bool × List (List Nat × List Nat) := (true, [([], []), ([0], [0]), ([], []), ([], []), ([2, 3], [2, 3]), ([4], [4]), ([1, 5], [1, 5]), ([6, 4], [6]), ([7], [7]), ([8, 7], [7, 8]), ([7], [7]), ([7], [7]), ([10, 11, 7, 7], [7, 10, 11]), ([12, 7], [7, 12]), ([9, 13, 12, 7], [7, 9, 13]), ([14, 7], [7, 14]), ([7, 15], [7, 15]), ([16, 14], [16]), ([17], [17]), ([18, 17], [17, 18]), ([17], [17]), ([17], [17]), ([17], [17]), ([20, 21, 22, 17, 17], [17, 20, 21, 22]), ([23, 17], [17, 23]), ([19, 24, 17], [17, 19, 24]), ([17, 25], [17, 25]), ([26, 23], [26]), ([27], [27]), ([28, 27], [27, 28]), ([27], [27]), ([27], [27]), ([27], [27]), ([30, 31, 32, 27, 27], [27, 30, 31, 32]), ([33, 27], [27, 33]), ([29, 34, 33, 27], [27, 29, 34]), ([35, 27], [27, 35]), ([27, 36], [27, 36]), ([37, 35], [37]), ([38], [38]), ([39, 38], [38, 39]), ([38], [38]), ([38], [38]), ([38], [38]), ([41, 42, 43, 38, 38], [38, 41, 42, 43]), ([44, 38], [38, 44]), ([40, 45, 38], [38, 40, 45]), ([38, 46], [38, 46]), ([47, 44], [47]), ([48], [48]), ([49, 48], [48, 49]), ([48], [48]), ([48], [48]), ([48], [48]), ([51, 52, 53, 48, 48], [48, 51, 52, 53]), ([54, 48], [48, 54]), ([50, 55, 54, 48], [48, 50, 55]), ([56, 48], [48, 56]), ([48, 57], [48, 57])])
def laws_FnDialback.B9 : List Nat := [0, 1, 0, 0, 12, 28, 63, 127, 255, 511, 255, 255, 3327, 7423, 16383, 32767, 65535, 131071, 262143, 524287, 262143, 262143, 262143, 7602175, 15990783, 33554431, 67108863, 134217727, 268435455, 536870911, 268435455, 268435455, 268435455, 7784628223, 16374562815, 34359738367, 68719476735, 137438953471, 274877906943, 549755813887, 1099511627775, 549755813887, 549755813887, 549755813887, 15942918602751, 33535104647167, 70368744177663, 140737488355327, 281474976710655, 562949953421311, 1125899906842623, 562949953421311, 562949953421311, 562949953421311, 16325548649218047, 34339947158700031, 72057594037927935, 144115188075855871, 288230376151711743]
theorem laws_FnDialback.tab9 : rtab .any (opsOf Tryd.f3 9) = laws_FnDialback.T9 := by kernel_rfl
theorem laws_FnDialback.bits9 : waitsOk laws_FnDialback.T9.2 laws_FnDialback.B9 = true := by kernel_rfl
def laws_FnDialback.T16 : Bool × List (List Nat × List Nat) := (true, [([], []), ([], []), ([], []), ([0, 1, 2], [0, 1, 2]), ([], []), ([], []), ([], []), ([4, 5, 6, 3], [4, 5, 6]), ([3, 7], [3, 7]), ([8, 7], [8]), ([9], [9]), ([10, 9, 9], [9, 10]), ([9], [9]), ([12, 11, 9], [9, 12]), ([11, 13, 9], [9, 11, 13]), ([9, 14], [9, 14]), ([15, 13], [15]), ([16], [16]), ([17, 16], [16, 17]), ([18, 16], [16, 18]), ([16, 19], [16, 19])])
def laws_FnDialback.B16 : List Nat := [0, 0, 0, 7, 0, 0, 0, 127, 255, 511, 1023, 2047, 1023, 8191, 16383, 32767, 65535, 131071, 262143, 524287, 1048575]
theorem laws_FnDialback.tab16 : rtab .any (opsOf Tryd.f3 16) = laws_FnDialback.T16 := by kernel_rfl
theorem laws_FnDialback.bits16 : waitsOk laws_FnDialback.T16.2 laws_FnDialback.B16 = true := by kernel_rfl
def laws_FnDialback.T17 : Bool × List (List Nat × List Nat) := (true, [([], []), ([], []), ([], []), ([0, 1, 2], [0, 1, 2]), ([], []), ([], []), ([], []), ([4, 5, 6, 3], [4, 5, 6]), ([3, 7], [3, 7]), ([8, 7], [8]), ([9], [9]), ([10, 9, 9], [9, 10]), ([9], [9]), ([12, 11, 9], [9, 12]), ([11, 13, 9], [9, 11, 13]), ([9, 14], [9, 14]), ([15, 13, 0, 1, 2, 3, 4, 5, 6, 7, 8, 9, 10, 11, 12, 13, 14, 15], [15])])
def laws_FnDialback.B17 : List Nat := [0, 0, 0, 7, 0, 0, 0, 127, 255, 511, 1023, 2047, 1023, 8191, 16383, 32767, 65535]
theorem laws_FnDialback.tab17 : rtab .any (opsOf Tryd.f3 17) = laws_FnDialback.T17 := by kernel_rfl
theorem laws_FnDialback.bits17 : waitsOk laws_FnDialback.T17.2 laws_FnDialback.B17 = true := by kernel_rfl
set_option maxHeartbeats 8000000 in
set_option maxRecDepth 100000 in
theorem laws_FnDialback.calls (k : Nat) (A0 : Option Addr) (c0 : Nat) (l0 : List Int) (A1 : Option Addr) (c1 : Nat) (l1 : List Int) (r : Bool) (w : World) (hr0 : Kd.C (Kd.int .u8) w A0 l0.length l0) (hc0 : l0.length ≤ c0) (hr1 : Kd.C (Kd.int .u8) w A1 l1.length l1) (hc1 : l1.length ≤ c1) (h : laws_FnDialback.f k l0 l1 = some r) (hrt0 : r = true) (hmx : MaxIs w) :
  Calls Tryd.prog 3 #[.slice A0 l0.length c0, .slice A1 l1.length c1] w fun e w' => e = .returned (.bool r) ∧ Below w.heap.size w w' := by
 have hrt := Aside0.mk hrt0
 clear hrt0
 have hu25 := Tryd.underlying25
 have hu29 := Tryd.underlying29
 have hu43 := Tryd.underlying43
 have hfl29_2 : ∀ (u0_ u1_ u2_ u3_ u4_ : Value) (W_ : World), (Instr.field 29 (.agg #[u0_, u1_, u2_, u3_, u4_]) 2).run Tryd.prog W_ = .ok (u4_) W_ := fun _ _ _ _ _ _ => by rfl
 have hfl29_0 : ∀ (u0_ u1_ u2_ u3_ u4_ : Value) (W_ : World), (Instr.field 29 (.agg #[u0_, u1_, u2_, u3_, u4_]) 0).run Tryd.prog W_ = .ok (.agg #[u0_, u1_, u2_]) W_ := fun _ _ _ _ _ _ => by rfl
 have HR0 := Aside0.mk hr0
 have HC0 := Aside0.mk hc0
 clear hr0 hc0
 have HR1 := Aside0.mk hr1
 have HC1 := Aside0.mk hc1
 clear hr1 hc1
 have HB := Aside0.mk (Below.refl w.heap.size w)
 have H : (if (l0.length : Int) > 1048576 then (laws_FnDialback.j0 k l0 l1 true) else (laws_FnDialback.j0 k l0 l1 (decide ((l1.length : Int) > 1048576)))) = some r := h
 clear h
 have HC3 := Aside0.mk H
 clear H
 go_enter Tryd.func3, Tryd.ntmps3
 go_upto_region 1 with (fail)
 go_cut [28] (fun v28 wc => ∃ (kq : Nat) (x28_2 : Bool), v28 = .bool x28_2 ∧ Aside0 (laws_FnDialback.j0 kq l0 l1 x28_2 = some r) ∧ Aside0 (kq ≤ k) ∧ Aside0 (Below w.heap.size w wc))
 case first => as_aux_lemma =>
  have H := HC3.out
  clear HC3
  by_cases c4 : (l0.length : Int) > 1048576
  ·
   rw [if_pos c4] at H
   have c4b0 : decide (1048576 < (l0.length : Int)) = true := decide_eq_true c4
   have c4b1 : decide (1048576 < l0.length) = true := decide_eq_true (by omega)
   clear c4
   have H' := Aside0.mk H
   clear H
   go_wp2
   go_meet
   case rel => exact ⟨_, (true), zb0_17, H', ⟨by omega⟩, ⟨by repeat ((with_reducible (exact HB.out)))⟩⟩
  rw [if_neg c4] at H
  have c4b0 : decide (1048576 < (l0.length : Int)) = false := decide_eq_false c4
  have c4b1 : decide (1048576 < l0.length) = false := decide_eq_false (by omega)
  clear c4
  have H' := Aside0.mk H
  clear H
  go_wp2
  go_meet
  case rel => exact ⟨_, (decide ((l1.length : Int) > 1048576)), zb0_17, H', ⟨by omega⟩, ⟨by repeat ((with_reducible (exact HB.out)))⟩⟩
 case rest => as_aux_lemma =>
  clear HC3
  obtain ⟨kq, x28_2, rfl, HA, HJ2, HB⟩ := hcut
  cases kq with
  | zero => exact absurd HA.out (by simp [laws_FnDialback.j0])
  | succ kj2 =>
   have H := HA.out
   clear HA
   simp only [laws_FnDialback.j0] at H
   by_cases c5 : x28_2 = true
   · subst c5; rw [if_pos rfl] at H; obtain rfl := Option.some.inj H; go_wp2; go_ret; exact ⟨by rfl, by repeat ((with_reducible (exact HB.out)))⟩
   replace c5 := Bool.eq_false_iff.mpr c5
   subst c5
   rw [if_neg (show ¬ (false = true) by decide)] at H
   replace H := Option.bind_eq_some_iff.mp H
   obtain ⟨⟨t578, t579, t580, t583⟩, A60, H⟩ := H
   (try dsimp -simprocs only at H)
   have A6 := Aside0.mk A60
   clear A60
   replace H := Option.bind_eq_some_iff.mp H
   obtain ⟨⟨t585, t586, t587, t590, t591⟩, A70, H⟩ := H
   (try dsimp -simprocs only at H)
   have A7 := Aside0.mk A70
   clear A70
   replace H := Option.bind_eq_some_iff.mp H
   obtain ⟨⟨t593, t594, t595, t598, t599⟩, A80, H⟩ := H
   (try dsimp -simprocs only at H)
   have A8 := Aside0.mk A80
   clear A80
   replace H := Option.bind_eq_some_iff.mp H
   obtain ⟨⟨t601, t602, t603, t606, t607⟩, A90, H⟩ := H
   (try dsimp -simprocs only at H)
   have A9 := Aside0.mk A90
   clear A90
   replace H := Option.bind_eq_some_iff.mp H
   obtain ⟨⟨t609, t610, t611, t614, t615⟩, A100, H⟩ := H
   (try dsimp -simprocs only at H)
   have A10 := Aside0.mk A100
   clear A100
   replace H := Option.bind_eq_some_iff.mp H
   obtain ⟨⟨t617, t618, t619, t622, t623⟩, A110, H⟩ := H
   (try dsimp -simprocs only at H)
   have A11 := Aside0.mk A110
   clear A110
   have HC12 := Aside0.mk H
   clear H
   go_upto_region 9 with (first | ((with_reducible refine gate_callee (f := 4) rfl ?_); refine goesL_ (some 31) rfl rfl Tryd.func4 (by kernel_rfl) rfl #[.slice A0 l0.length c0] rfl zb1_17 ?_; (with_reducible refine (spec_DrawDbOpen.calls kj2 _ _ l0 t578 t579 t580 t583 _ ?side1 ?side2 A6.out).mono ?_); (case side1 => repeat ((exact (Kd.C_below HR0.out HB.out)))); (case side2 => exact HC0.out); rintro e w13 ⟨v581, rfl, ho0, hb⟩; refine ⟨_, rfl, ?_⟩; have HO582 := Aside0.mk (Kd.R_lower ho0 (below_size zb2_17)); replace HB := Aside0.mk (below_step zb2_17 hb); (try clear hb); (try clear ho0)) | ((with_reducible refine gate_dst (N := 5) rfl ?_); (try (refine gate_guard (by rfl) ?_; dsimp only)); refine box_event ?hg (N := 5) ?hd (cs := #[.string (⟨#[]⟩ : ByteArray), .int .i64 0, .slice none 0 0]) (t := 25) ?hr ?_; (case hd => rfl); (case hg => rfl); (case hr => (go_simp; done)); intro gb584 hg w14 hbox hb; replace HO582 := Aside0.mk (Kd.R_below zb3_17 hb); have BK584 := Aside0.mk (hbox); have GW584 := Aside0.mk ((by rw [hg]; exact (below_size zb2_17) : w.heap.size ≤ gb584)); have GE584 := Aside0.mk ((by rw [hg]; exact (below_size zb2_17) : w.heap.size ≤ gb584)); replace HB := Aside0.mk (below_step zb2_17 hb); clear hb hbox hg; obtain ⟨z0, z1, z2, z3, z4, z5⟩ := bz3 BK584.out; obtain ⟨Ao16, co16, eo16⟩ := Kd.R_slice HO582.out; subst eo16) | ((with_reducible refine gate_callee (f := 5) rfl ?_); refine goesL_ (some 36) rfl rfl Tryd.func5 (by kernel_rfl) rfl #[.agg #[.string t578, .int .i64 t579, .slice Ao16 t580.length co16], .string t583] rfl zb1_17 ?_; (with_reducible refine (impl_DbOpen.calls kj2 t578 t579 _ _ t580 t583 t585 t586 t587 t590 t591 _ ?side1 ?side2 A7.out zb4_17).mono ?_); (case side1 => refine (Kd.R_reads' (e := 43) (base := w.heap.size) (ok := fun k_ => True) (n := t580.length) (c := co16) ?_).2.2; exact zb5_17); (case side2 => exact (Kd.R_reads' HO582.out).2.1); rintro e w17 ⟨v588, rfl, ho0, hb⟩; refine ⟨_, rfl, ?_⟩; have HO589 := Aside0.mk (Kd.R_lower (Kd.R_new' ho0 (Kd.R_lt zb5_17)) (below_size zb6_17)); replace HO582 := Aside0.mk (Kd.R_elder' zb5_17 (Kd.R_base ho0) hb); replace BK584 := Aside0.mk (blk_below (g := gb584) (o := .cells #[.string t578, .int .i64 t579, .slice Ao16 t580.length co16] 25 (0, 0)) (by apply bp3; exact BK584.out) hb); replace HB := Aside0.mk (below_step zb6_17 hb); (try clear hb); (try clear ho0)) | ((with_reducible refine gate_dst (N := 7) rfl ?_); (try (refine gate_guard (by rfl) ?_; dsimp only)); refine box_event ?hg (N := 7) ?hd (cs := #[.string (⟨#[]⟩ : ByteArray), .int .i64 0, .slice none 0 0, .int .i64 0, .int .i64 0]) (t := 29) ?hr ?_; (case hd => rfl); (case hg => rfl); (case hr => (go_simp; done)); intro gb592 hg w18 hbox hb; replace HO582 := Aside0.mk (Kd.R_below zb3_17 hb); replace HO589 := Aside0.mk (Kd.R_below zb7_17 hb); have BK592 := Aside0.mk (hbox); have GW592 := Aside0.mk ((by rw [hg]; exact (below_size zb6_17) : w.heap.size ≤ gb592)); have GE592 := Aside0.mk ((by rw [hg]; exact (below_size zb6_17) : w.heap.size ≤ gb592)); replace HB := Aside0.mk (below_step zb6_17 hb); have NB584_592 := Aside0.mk ((zb9_17 : gb584 ≠ gb592)); have NB592_584 := Aside0.mk ((zb10_17 : gb592 ≠ gb584)); replace BK584 := bkb BK584 hb; clear hb hbox hg; have hnb19 := NB592_584.out; have hnc19 := NB584_592.out; obtain ⟨z0, z1, z2, z3, z4, z5, z6, z7, z8, z9⟩ := bz5 BK592.out; obtain ⟨Ao21, co21, eo21⟩ := Kd.R_slice HO589.out; subst eo21) | ((with_reducible refine gate_callee (f := 6) rfl ?_); refine goesL_ (some 39) rfl rfl Tryd.func6 (by kernel_rfl) rfl #[.slice A1 l1.length c1] rfl zb1_17 ?_; (with_reducible refine (spec_DrawDbResult.calls kj2 _ _ l1 t593 t594 t595 t598 t599 _ ?side1 ?side2 A8.out).mono ?_); (case side1 => exact Kd.C_below HR1.out zb11_17); (case side2 => exact HC1.out); rintro e w22 ⟨v596, rfl, ho0, hb⟩; refine ⟨_, rfl, ?_⟩; have HO597 := Aside0.mk (Kd.R_lower (Kd.R_new' (Kd.R_new' ho0 (Kd.R_lt (by exact (Kd.R_mono (rfa (rfa (rfa (rfa (rfa (Kd.R_types HO582.out BK592.out (by decide)) (fun _ h => h.2)) (fun _ h => h.2)) (fun _ h => h.2)) (fun _ h => h.2)) (fun _ h => h.2)) (fun _ h_ => h_.1))))) (Kd.R_lt (by exact (Kd.R_mono (rfa (rfa (rfa (rfa (rfa (Kd.R_types HO589.out BK592.out (by decide)) (fun _ h => h.2)) (fun _ h => h.2)) (fun _ h => h.2)) (fun _ h => h.2)) (fun _ h => h.2)) (fun _ h_ => h_.1))))) (below_size zb11_17)); replace HO582 := Aside0.mk (Kd.R_elder' (by exact (Kd.R_mono (rfa (rfa (rfa (rfa (rfa (Kd.R_types HO582.out BK592.out (by decide)) (fun _ h => h.2)) (fun _ h => h.2)) (fun _ h => h.2)) (fun _ h => h.2)) (fun _ h => h.2)) (fun _ h_ => h_.1))) (Kd.R_base ho0) hb); replace HO589 := Aside0.mk (Kd.R_elder' (by exact (Kd.R_mono (rfa (rfa (rfa (rfa (rfa (Kd.R_types HO589.out BK592.out (by decide)) (fun _ h => h.2)) (fun _ h => h.2)) (fun _ h => h.2)) (fun _ h => h.2)) (fun _ h => h.2)) (fun _ h_ => h_.1))) (Kd.R_base ho0) hb); replace BK584 := Aside0.mk (blk_below (g := gb584) (o := .cells #[.string t578, .int .i64 t579, .slice Ao16 t580.length co16] 25 (0, 0)) (by refine blk_far ?_ NB584_592.out _; refine blk_far ?_ NB584_592.out _; refine blk_far ?_ NB584_592.out _; refine blk_far ?_ NB584_592.out _; refine blk_far ?_ NB584_592.out _; exact BK584.out) hb); replace BK592 := Aside0.mk (blk_below (g := gb592) (o := .cells #[.string t585, .int .i64 t586, .slice Ao21 t587.length co21, .int .i64 t590, .int .i64 t591] 29 (0, 0)) (by apply bp5; exact BK592.out) hb); replace HB := Aside0.mk (below_step zb11_17 hb); (try clear hb); (try clear ho0)) | ((with_reducible refine gate_dst (N := 8) rfl ?_); (try (refine gate_guard (by rfl) ?_; dsimp only)); refine box_event ?hg (N := 8) ?hd (cs := #[.string (⟨#[]⟩ : ByteArray), .int .i64 0, .slice none 0 0]) (t := 25) ?hr ?_; (case hd => rfl); (case hg => rfl); (case hr => (go_simp; done)); intro gb600 hg w23 hbox hb; replace HO582 := Aside0.mk (Kd.R_below zb3_17 hb); replace HO589 := Aside0.mk (Kd.R_below zb7_17 hb); replace HO597 := Aside0.mk (Kd.R_below zb12_17 hb); have BK600 := Aside0.mk (hbox); have GW600 := Aside0.mk ((by rw [hg]; exact (below_size zb11_17) : w.heap.size ≤ gb600)); have GE600 := Aside0.mk ((by rw [hg]; exact (below_size zb11_17) : w.heap.size ≤ gb600)); replace HB := Aside0.mk (below_step zb11_17 hb); have NB584_600 := Aside0.mk ((zb9_17 : gb584 ≠ gb600)); have NB600_584 := Aside0.mk ((zb10_17 : gb600 ≠ gb584)); replace BK584 := bkb BK584 hb; have NB592_600 := Aside0.mk ((zb14_17 : gb592 ≠ gb600)); have NB600_592 := Aside0.mk ((zb15_17 : gb600 ≠ gb592)); replace BK592 := bkb BK592 hb; clear hb hbox hg; have hnb24 := NB600_584.out; have hnc24 := NB584_600.out; have hnb25 := NB600_592.out; have hnc25 := NB592_600.out; obtain ⟨z0, z1, z2, z3, z4, z5⟩ := bz3 BK600.out; obtain ⟨Ao27, co27, eo27⟩ := Kd.R_slice HO597.out; subst eo27) | ((with_reducible refine gate_callee (f := 7) rfl ?_); refine goesL_ (some 46) rfl rfl Tryd.func7 (by kernel_rfl) rfl #[.agg #[.string t593, .int .i64 t594, .slice Ao27 t595.length co27], .int .i64 t598, .string t599] rfl zb1_17 ?_; (with_reducible refine (impl_DbResult.calls kj2 t593 t594 _ _ t595 t598 t599 t601 t602 t603 t606 t607 _ ?side1 ?side2 A9.out zb4_17).mono ?_); (case side1 => refine (Kd.R_reads' (e := 43) (base := w.heap.size) (ok := fun k_ => ((True ∧ some k_ ≠ (.slice Ao16 t580.length co16 : Value).ownBlock) ∧ some k_ ≠ (.slice Ao21 t587.length co21 : Value).ownBlock)) (n := t595.length) (c := co27) ?_).2.2; exact zb16_17); (case side2 => exact (Kd.R_reads' HO597.out).2.1); rintro e w28 ⟨v604, rfl, ho0, hb⟩; refine ⟨_, rfl, ?_⟩; have HO605 := Aside0.mk (Kd.R_lower (Kd.R_new' (Kd.R_new' (Kd.R_new' ho0 (Kd.R_lt (by exact (Kd.R_mono (rfa (rfa (rfa (Kd.R_types HO582.out BK600.out (by decide)) (fun _ h => h.2)) (fun _ h => h.2)) (fun _ h => h.2)) (fun _ h_ => h_.1))))) (Kd.R_lt (by exact (Kd.R_mono (rfa (rfa (rfa (Kd.R_types HO589.out BK600.out (by decide)) (fun _ h => h.2)) (fun _ h => h.2)) (fun _ h => h.2)) (fun _ h_ => h_.1))))) (Kd.R_lt zb16_17)) (below_size zb17_17)); replace HO582 := Aside0.mk (Kd.R_elder' (by exact (Kd.R_mono (rfa (rfa (rfa (Kd.R_types HO582.out BK600.out (by decide)) (fun _ h => h.2)) (fun _ h => h.2)) (fun _ h => h.2)) (fun _ h_ => h_.1))) (Kd.R_base ho0) hb); replace HO589 := Aside0.mk (Kd.R_elder' (by exact (Kd.R_mono (rfa (rfa (rfa (Kd.R_types HO589.out BK600.out (by decide)) (fun _ h => h.2)) (fun _ h => h.2)) (fun _ h => h.2)) (fun _ h_ => h_.1))) (Kd.R_base ho0) hb); replace HO597 := Aside0.mk (Kd.R_elder' zb16_17 (Kd.R_base ho0) hb); replace BK584 := Aside0.mk (blk_below (g := gb584) (o := .cells #[.string t578, .int .i64 t579, .slice Ao16 t580.length co16] 25 (0, 0)) (by refine blk_far ?_ NB584_600.out _; refine blk_far ?_ NB584_600.out _; refine blk_far ?_ NB584_600.out _; exact BK584.out) hb); replace BK592 := Aside0.mk (blk_below (g := gb592) (o := .cells #[.string t585, .int .i64 t586, .slice Ao21 t587.length co21, .int .i64 t590, .int .i64 t591] 29 (0, 0)) (by refine blk_far ?_ NB592_600.out _; refine blk_far ?_ NB592_600.out _; refine blk_far ?_ NB592_600.out _; exact BK592.out) hb); replace BK600 := Aside0.mk (blk_below (g := gb600) (o := .cells #[.string t593, .int .i64 t594, .slice Ao27 t595.length co27] 25 (0, 0)) (by apply bp3; exact BK600.out) hb); replace HB := Aside0.mk (below_step zb17_17 hb); (try clear hb); (try clear ho0)) | ((with_reducible refine gate_dst (N := 11) rfl ?_); (try (refine gate_guard (by rfl) ?_; dsimp only)); refine box_event ?hg (N := 11) ?hd (cs := #[.string (⟨#[]⟩ : ByteArray), .int .i64 0, .slice none 0 0, .int .i64 0, .int .i64 0]) (t := 29) ?hr ?_; (case hd => rfl); (case hg => rfl); (case hr => (go_simp; done)); intro gb608 hg w29 hbox hb; replace HO582 := Aside0.mk (Kd.R_below zb3_17 hb); replace HO589 := Aside0.mk (Kd.R_below zb7_17 hb); replace HO597 := Aside0.mk (Kd.R_below zb12_17 hb); replace HO605 := Aside0.mk (Kd.R_below zb18_17 hb); have BK608 := Aside0.mk (hbox); have GW608 := Aside0.mk ((by rw [hg]; exact (below_size zb17_17) : w.heap.size ≤ gb608)); have GE608 := Aside0.mk ((by rw [hg]; exact (below_size zb17_17) : w.heap.size ≤ gb608)); replace HB := Aside0.mk (below_step zb17_17 hb); have NB584_608 := Aside0.mk ((zb9_17 : gb584 ≠ gb608)); have NB608_584 := Aside0.mk ((zb10_17 : gb608 ≠ gb584)); replace BK584 := bkb BK584 hb; have NB592_608 := Aside0.mk ((zb14_17 : gb592 ≠ gb608)); have NB608_592 := Aside0.mk ((zb15_17 : gb608 ≠ gb592)); replace BK592 := bkb BK592 hb; have NB600_608 := Aside0.mk ((zb20_17 : gb600 ≠ gb608)); have NB608_600 := Aside0.mk ((zb21_17 : gb608 ≠ gb600)); replace BK600 := bkb BK600 hb; clear hb hbox hg; have hnb30 := NB608_584.out; have hnc30 := NB584_608.out; have hnb31 := NB608_592.out; have hnc31 := NB592_608.out; have hnb32 := NB608_600.out; have hnc32 := NB600_608.out; obtain ⟨z0, z1, z2, z3, z4, z5, z6, z7, z8, z9⟩ := bz5 BK608.out; obtain ⟨Ao34, co34, eo34⟩ := Kd.R_slice HO605.out; subst eo34) | ((with_reducible refine gate_callee (f := 8) rfl ?_); refine goesL_ (some 49) rfl rfl Tryd.func8 (by kernel_rfl) rfl #[.slice A1 l1.length c1] rfl zb1_17 ?_; (with_reducible refine (spec_DrawDbVerified.calls kj2 _ _ l1 t609 t610 t611 t614 t615 _ ?side1 ?side2 A10.out).mono ?_); (case side1 => exact Kd.C_below HR1.out zb22_17); (case side2 => exact HC1.out); rintro e w35 ⟨v612, rfl, ho0, hb⟩; refine ⟨_, rfl, ?_⟩; have HO613 := Aside0.mk (Kd.R_lower (Kd.R_new' (Kd.R_new' (Kd.R_new' (Kd.R_new' ho0 (Kd.R_lt (by exact (Kd.R_mono (rfa (rfa (rfa (rfa (rfa (Kd.R_types HO582.out BK608.out (by decide)) (fun _ h => h.2)) (fun _ h => h.2)) (fun _ h => h.2)) (fun _ h => h.2)) (fun _ h => h.2)) (fun _ h_ => h_.1))))) (Kd.R_lt (by exact (Kd.R_mono (rfa (rfa (rfa (rfa (rfa (Kd.R_types HO589.out BK608.out (by decide)) (fun _ h => h.2)) (fun _ h => h.2)) (fun _ h => h.2)) (fun _ h => h.2)) (fun _ h => h.2)) (fun _ h_ => h_.1))))) (Kd.R_lt (by exact (Kd.R_mono (rfa (rfa (rfa (rfa (rfa (Kd.R_types HO597.out BK608.out (by decide)) (fun _ h => h.2)) (fun _ h => h.2)) (fun _ h => h.2)) (fun _ h => h.2)) (fun _ h => h.2)) (fun _ h_ => h_.1))))) (Kd.R_lt (by exact (Kd.R_mono (rfa (rfa (rfa (rfa (rfa (Kd.R_types HO605.out BK608.out (by decide)) (fun _ h => h.2)) (fun _ h => h.2)) (fun _ h => h.2)) (fun _ h => h.2)) (fun _ h => h.2)) (fun _ h_ => h_.1))))) (below_size zb22_17)); replace HO582 := Aside0.mk (Kd.R_elder' (by exact (Kd.R_mono (rfa (rfa (rfa (rfa (rfa (Kd.R_types HO582.out BK608.out (by decide)) (fun _ h => h.2)) (fun _ h => h.2)) (fun _ h => h.2)) (fun _ h => h.2)) (fun _ h => h.2)) (fun _ h_ => h_.1))) (Kd.R_base ho0) hb); replace HO589 := Aside0.mk (Kd.R_elder' (by exact (Kd.R_mono (rfa (rfa (rfa (rfa (rfa (Kd.R_types HO589.out BK608.out (by decide)) (fun _ h => h.2)) (fun _ h => h.2)) (fun _ h => h.2)) (fun _ h => h.2)) (fun _ h => h.2)) (fun _ h_ => h_.1))) (Kd.R_base ho0) hb); replace HO597 := Aside0.mk (Kd.R_elder' (by exact (Kd.R_mono (rfa (rfa (rfa (rfa (rfa (Kd.R_types HO597.out BK608.out (by decide)) (fun _ h => h.2)) (fun _ h => h.2)) (fun _ h => h.2)) (fun _ h => h.2)) (fun _ h => h.2)) (fun _ h_ => h_.1))) (Kd.R_base ho0) hb); replace HO605 := Aside0.mk (Kd.R_elder' (by exact (Kd.R_mono (rfa (rfa (rfa (rfa (rfa (Kd.R_types HO605.out BK608.out (by decide)) (fun _ h => h.2)) (fun _ h => h.2)) (fun _ h => h.2)) (fun _ h => h.2)) (fun _ h => h.2)) (fun _ h_ => h_.1))) (Kd.R_base ho0) hb); replace BK584 := Aside0.mk (blk_below (g := gb584) (o := .cells #[.string t578, .int .i64 t579, .slice Ao16 t580.length co16] 25 (0, 0)) (by refine blk_far ?_ NB584_608.out _; refine blk_far ?_ NB584_608.out _; refine blk_far ?_ NB584_608.out _; refine blk_far ?_ NB584_608.out _; refine blk_far ?_ NB584_608.out _; exact BK584.out) hb); replace BK592 := Aside0.mk (blk_below (g := gb592) (o := .cells #[.string t585, .int .i64 t586, .slice Ao21 t587.length co21, .int .i64 t590, .int .i64 t591] 29 (0, 0)) (by refine blk_far ?_ NB592_608.out _; refine blk_far ?_ NB592_608.out _; refine blk_far ?_ NB592_608.out _; refine blk_far ?_ NB592_608.out _; refine blk_far ?_ NB592_608.out _; exact BK592.out) hb); replace BK600 := Aside0.mk (blk_below (g := gb600) (o := .cells #[.string t593, .int .i64 t594, .slice Ao27 t595.length co27] 25 (0, 0)) (by refine blk_far ?_ NB600_608.out _; refine blk_far ?_ NB600_608.out _; refine blk_far ?_ NB600_608.out _; refine blk_far ?_ NB600_608.out _; refine blk_far ?_ NB600_608.out _; exact BK600.out) hb); replace BK608 := Aside0.mk (blk_below (g := gb608) (o := .cells #[.string t601, .int .i64 t602, .slice Ao34 t603.length co34, .int .i64 t606, .int .i64 t607] 29 (0, 0)) (by apply bp5; exact BK608.out) hb); replace HB := Aside0.mk (below_step zb22_17 hb); (try clear hb); (try clear ho0)) | ((with_reducible refine gate_dst (N := 12) rfl ?_); (try (refine gate_guard (by rfl) ?_; dsimp only)); refine box_event ?hg (N := 12) ?hd (cs := #[.string (⟨#[]⟩ : ByteArray), .int .i64 0, .slice none 0 0]) (t := 25) ?hr ?_; (case hd => rfl); (case hg => rfl); (case hr => (go_simp; done)); intro gb616 hg w36 hbox hb; replace HO582 := Aside0.mk (Kd.R_below zb3_17 hb); replace HO589 := Aside0.mk (Kd.R_below zb7_17 hb); replace HO597 := Aside0.mk (Kd.R_below zb12_17 hb); replace HO605 := Aside0.mk (Kd.R_below zb18_17 hb); replace HO613 := Aside0.mk (Kd.R_below zb23_17 hb); have BK616 := Aside0.mk (hbox); have GW616 := Aside0.mk ((by rw [hg]; exact (below_size zb22_17) : w.heap.size ≤ gb616)); have GE616 := Aside0.mk ((by rw [hg]; exact (below_size zb22_17) : w.heap.size ≤ gb616)); replace HB := Aside0.mk (below_step zb22_17 hb); have NB584_616 := Aside0.mk ((zb9_17 : gb584 ≠ gb616)); have NB616_584 := Aside0.mk ((zb10_17 : gb616 ≠ gb584)); replace BK584 := bkb BK584 hb; have NB592_616 := Aside0.mk ((zb14_17 : gb592 ≠ gb616)); have NB616_592 := Aside0.mk ((zb15_17 : gb616 ≠ gb592)); replace BK592 := bkb BK592 hb; have NB600_616 := Aside0.mk ((zb20_17 : gb600 ≠ gb616)); have NB616_600 := Aside0.mk ((zb21_17 : gb616 ≠ gb600)); replace BK600 := bkb BK600 hb; have NB608_616 := Aside0.mk ((zb25_17 : gb608 ≠ gb616)); have NB616_608 := Aside0.mk ((zb26_17 : gb616 ≠ gb608)); replace BK608 := bkb BK608 hb; clear hb hbox hg; have hnb37 := NB616_584.out; have hnc37 := NB584_616.out; have hnb38 := NB616_592.out; have hnc38 := NB592_616.out; have hnb39 := NB616_600.out; have hnc39 := NB600_616.out; have hnb40 := NB616_608.out; have hnc40 := NB608_616.out; obtain ⟨z0, z1, z2, z3, z4, z5⟩ := bz3 BK616.out; obtain ⟨Ao42, co42, eo42⟩ := Kd.R_slice HO613.out; subst eo42) | ((with_reducible refine gate_callee (f := 9) rfl ?_); refine goesL_ (some 56) rfl rfl Tryd.func9 (by kernel_rfl) rfl #[.agg #[.string t609, .int .i64 t610, .slice Ao42 t611.length co42], .int .i64 t614, .bool t615] rfl zb1_17 ?_; (with_reducible refine (impl_DbVerified.calls kj2 t609 t610 _ _ t611 t614 t615 t617 t618 t619 t622 t623 _ ?side1 ?side2 A11.out zb4_17).mono ?_); (case side1 => refine (Kd.R_reads' (e := 43) (base := w.heap.size) (ok := fun k_ => ((((True ∧ some k_ ≠ (.slice Ao16 t580.length co16 : Value).ownBlock) ∧ some k_ ≠ (.slice Ao21 t587.length co21 : Value).ownBlock) ∧ some k_ ≠ (.slice Ao27 t595.length co27 : Value).ownBlock) ∧ some k_ ≠ (.slice Ao34 t603.length co34 : Value).ownBlock)) (n := t611.length) (c := co42) ?_).2.2; exact zb27_17); (case side2 => exact (Kd.R_reads' HO613.out).2.1); rintro e w43 ⟨v620, rfl, ho0, hb⟩; refine ⟨_, rfl, ?_⟩; have HO621 := Aside0.mk (Kd.R_lower (Kd.R_new' (Kd.R_new' (Kd.R_new' (Kd.R_new' (Kd.R_new' ho0 (Kd.R_lt (by exact (Kd.R_mono (rfa (rfa (rfa (Kd.R_types HO582.out BK616.out (by decide)) (fun _ h => h.2)) (fun _ h => h.2)) (fun _ h => h.2)) (fun _ h_ => h_.1))))) (Kd.R_lt (by exact (Kd.R_mono (rfa (rfa (rfa (Kd.R_types HO589.out BK616.out (by decide)) (fun _ h => h.2)) (fun _ h => h.2)) (fun _ h => h.2)) (fun _ h_ => h_.1))))) (Kd.R_lt (by exact (Kd.R_mono (rfa (rfa (rfa (Kd.R_types HO597.out BK616.out (by decide)) (fun _ h => h.2)) (fun _ h => h.2)) (fun _ h => h.2)) (fun _ h_ => h_.1))))) (Kd.R_lt (by exact (Kd.R_mono (rfa (rfa (rfa (Kd.R_types HO605.out BK616.out (by decide)) (fun _ h => h.2)) (fun _ h => h.2)) (fun _ h => h.2)) (fun _ h_ => h_.1))))) (Kd.R_lt zb27_17)) (below_size zb28_17)); replace HO582 := Aside0.mk (Kd.R_elder' (by exact (Kd.R_mono (rfa (rfa (rfa (Kd.R_types HO582.out BK616.out (by decide)) (fun _ h => h.2)) (fun _ h => h.2)) (fun _ h => h.2)) (fun _ h_ => h_.1))) (Kd.R_base ho0) hb); replace HO589 := Aside0.mk (Kd.R_elder' (by exact (Kd.R_mono (rfa (rfa (rfa (Kd.R_types HO589.out BK616.out (by decide)) (fun _ h => h.2)) (fun _ h => h.2)) (fun _ h => h.2)) (fun _ h_ => h_.1))) (Kd.R_base ho0) hb); replace HO597 := Aside0.mk (Kd.R_elder' (by exact (Kd.R_mono (rfa (rfa (rfa (Kd.R_types HO597.out BK616.out (by decide)) (fun _ h => h.2)) (fun _ h => h.2)) (fun _ h => h.2)) (fun _ h_ => h_.1))) (Kd.R_base ho0) hb); replace HO605 := Aside0.mk (Kd.R_elder' (by exact (Kd.R_mono (rfa (rfa (rfa (Kd.R_types HO605.out BK616.out (by decide)) (fun _ h => h.2)) (fun _ h => h.2)) (fun _ h => h.2)) (fun _ h_ => h_.1))) (Kd.R_base ho0) hb); replace HO613 := Aside0.mk (Kd.R_elder' zb27_17 (Kd.R_base ho0) hb); replace BK584 := Aside0.mk (blk_below (g := gb584) (o := .cells #[.string t578, .int .i64 t579, .slice Ao16 t580.length co16] 25 (0, 0)) (by refine blk_far ?_ NB584_616.out _; refine blk_far ?_ NB584_616.out _; refine blk_far ?_ NB584_616.out _; exact BK584.out) hb); replace BK592 := Aside0.mk (blk_below (g := gb592) (o := .cells #[.string t585, .int .i64 t586, .slice Ao21 t587.length co21, .int .i64 t590, .int .i64 t591] 29 (0, 0)) (by refine blk_far ?_ NB592_616.out _; refine blk_far ?_ NB592_616.out _; refine blk_far ?_ NB592_616.out _; exact BK592.out) hb); replace BK600 := Aside0.mk (blk_below (g := gb600) (o := .cells #[.string t593, .int .i64 t594, .slice Ao27 t595.length co27] 25 (0, 0)) (by refine blk_far ?_ NB600_616.out _; refine blk_far ?_ NB600_616.out _; refine blk_far ?_ NB600_616.out _; exact BK600.out) hb); replace BK608 := Aside0.mk (blk_below (g := gb608) (o := .cells #[.string t601, .int .i64 t602, .slice Ao34 t603.length co34, .int .i64 t606, .int .i64 t607] 29 (0, 0)) (by refine blk_far ?_ NB608_616.out _; refine blk_far ?_ NB608_616.out _; refine blk_far ?_ NB608_616.out _; exact BK608.out) hb); replace BK616 := Aside0.mk (blk_below (g := gb616) (o := .cells #[.string t609, .int .i64 t610, .slice Ao42 t611.length co42] 25 (0, 0)) (by apply bp3; exact BK616.out) hb); replace HB := Aside0.mk (below_step zb28_17 hb); (try clear hb); (try clear ho0)) | ((with_reducible refine gate_dst (N := 15) rfl ?_); (try (refine gate_guard (by rfl) ?_; dsimp only)); refine box_event ?hg (N := 15) ?hd (cs := #[.string (⟨#[]⟩ : ByteArray), .int .i64 0, .slice none 0 0, .int .i64 0, .int .i64 0]) (t := 29) ?hr ?_; (case hd => rfl); (case hg => rfl); (case hr => (go_simp; done)); intro gb624 hg w44 hbox hb; replace HO582 := Aside0.mk (Kd.R_below zb3_17 hb); replace HO589 := Aside0.mk (Kd.R_below zb7_17 hb); replace HO597 := Aside0.mk (Kd.R_below zb12_17 hb); replace HO605 := Aside0.mk (Kd.R_below zb18_17 hb); replace HO613 := Aside0.mk (Kd.R_below zb23_17 hb); replace HO621 := Aside0.mk (Kd.R_below zb29_17 hb); have BK624 := Aside0.mk (hbox); have GW624 := Aside0.mk ((by rw [hg]; exact (below_size zb28_17) : w.heap.size ≤ gb624)); have GE624 := Aside0.mk ((by rw [hg]; exact (below_size zb28_17) : w.heap.size ≤ gb624)); replace HB := Aside0.mk (below_step zb28_17 hb); have NB584_624 := Aside0.mk ((zb9_17 : gb584 ≠ gb624)); have NB624_584 := Aside0.mk ((zb10_17 : gb624 ≠ gb584)); replace BK584 := bkb BK584 hb; have NB592_624 := Aside0.mk ((zb14_17 : gb592 ≠ gb624)); have NB624_592 := Aside0.mk ((zb15_17 : gb624 ≠ gb592)); replace BK592 := bkb BK592 hb; have NB600_624 := Aside0.mk ((zb20_17 : gb600 ≠ gb624)); have NB624_600 := Aside0.mk ((zb21_17 : gb624 ≠ gb600)); replace BK600 := bkb BK600 hb; have NB608_624 := Aside0.mk ((zb25_17 : gb608 ≠ gb624)); have NB624_608 := Aside0.mk ((zb26_17 : gb624 ≠ gb608)); replace BK608 := bkb BK608 hb; have NB616_624 := Aside0.mk ((zb31_17 : gb616 ≠ gb624)); have NB624_616 := Aside0.mk ((zb32_17 : gb624 ≠ gb616)); replace BK616 := bkb BK616 hb; clear hb hbox hg; have hnb45 := NB624_584.out; have hnc45 := NB584_624.out; have hnb46 := NB624_592.out; have hnc46 := NB592_624.out; have hnb47 := NB624_600.out; have hnc47 := NB600_624.out; have hnb48 := NB624_608.out; have hnc48 := NB608_624.out; have hnb49 := NB624_616.out; have hnc49 := NB616_624.out; obtain ⟨z0, z1, z2, z3, z4, z5, z6, z7, z8, z9⟩ := bz5 BK624.out; obtain ⟨Ao51, co51, eo51⟩ := Kd.R_slice HO621.out; subst eo51))
   go_cut [115] (fun v115 wc => ∃ (kq : Nat) (x115_11 : Bool), v115 = .bool x115_11 ∧ Aside0 (laws_FnDialback.j1 kq l0 t583 t598 t599 t614 t615 x115_11 t578 t579 t580 t585 t586 t587 t590 t591 t601 t602 t603 t606 t607 t617 t618 t619 t622 t623 = some r) ∧ Aside0 (kq ≤ kj2) ∧ Aside0 (Kd.R k43 43 wc w.heap.size (fun k_ => some k_ ≠ ((.slice Ao21 t587.length co21) : Value).ownBlock ∧ some k_ ≠ ((.slice Ao27 t595.length co27) : Value).ownBlock ∧ some k_ ≠ ((.slice Ao34 t603.length co34) : Value).ownBlock ∧ some k_ ≠ ((.slice Ao42 t611.length co42) : Value).ownBlock ∧ some k_ ≠ ((.slice Ao51 t619.length co51) : Value).ownBlock) (.slice Ao16 t580.length co16) t580) ∧ Aside0 (Kd.R k43 43 wc w.heap.size (fun k_ => some k_ ≠ ((.slice Ao16 t580.length co16) : Value).ownBlock ∧ some k_ ≠ ((.slice Ao27 t595.length co27) : Value).ownBlock ∧ some k_ ≠ ((.slice Ao34 t603.length co34) : Value).ownBlock ∧ some k_ ≠ ((.slice Ao42 t611.length co42) : Value).ownBlock ∧ some k_ ≠ ((.slice Ao51 t619.length co51) : Value).ownBlock) (.slice Ao21 t587.length co21) t587) ∧ Aside0 (Kd.R k43 43 wc w.heap.size (fun k_ => some k_ ≠ ((.slice Ao16 t580.length co16) : Value).ownBlock ∧ some k_ ≠ ((.slice Ao21 t587.length co21) : Value).ownBlock ∧ some k_ ≠ ((.slice Ao34 t603.length co34) : Value).ownBlock ∧ some k_ ≠ ((.slice Ao42 t611.length co42) : Value).ownBlock ∧ some k_ ≠ ((.slice Ao51 t619.length co51) : Value).ownBlock) (.slice Ao27 t595.length co27) t595) ∧ Aside0 (Kd.R k43 43 wc w.heap.size (fun k_ => some k_ ≠ ((.slice Ao16 t580.length co16) : Value).ownBlock ∧ some k_ ≠ ((.slice Ao21 t587.length co21) : Value).ownBlock ∧ some k_ ≠ ((.slice Ao27 t595.length co27) : Value).ownBlock ∧ some k_ ≠ ((.slice Ao42 t611.length co42) : Value).ownBlock ∧ some k_ ≠ ((.slice Ao51 t619.length co51) : Value).ownBlock) (.slice Ao34 t603.length co34) t603) ∧ Aside0 (Kd.R k43 43 wc w.heap.size (fun k_ => some k_ ≠ ((.slice Ao16 t580.length co16) : Value).ownBlock ∧ some k_ ≠ ((.slice Ao21 t587.length co21) : Value).ownBlock ∧ some k_ ≠ ((.slice Ao27 t595.length co27) : Value).ownBlock ∧ some k_ ≠ ((.slice Ao34 t603.length co34) : Value).ownBlock ∧ some k_ ≠ ((.slice Ao51 t619.length co51) : Value).ownBlock) (.slice Ao42 t611.length co42) t611) ∧ Aside0 (Kd.R k43 43 wc w.heap.size (fun k_ => some k_ ≠ ((.slice Ao16 t580.length co16) : Value).ownBlock ∧ some k_ ≠ ((.slice Ao21 t587.length co21) : Value).ownBlock ∧ some k_ ≠ ((.slice Ao27 t595.length co27) : Value).ownBlock ∧ some k_ ≠ ((.slice Ao34 t603.length co34) : Value).ownBlock ∧ some k_ ≠ ((.slice Ao42 t611.length co42) : Value).ownBlock) (.slice Ao51 t619.length co51) t619) ∧ Aside0 (wc.heap[gb584]? = some (.cells #[.string t578, .int .i64 t579, (.slice Ao16 t580.length co16)] 25 (0, 0))) ∧ Aside0 (wc.heap[gb592]? = some (.cells #[.string t585, .int .i64 t586, (.slice Ao21 t587.length co21), .int .i64 t590, .int .i64 t591] 29 (0, 0))) ∧ Aside0 (wc.heap[gb600]? = some (.cells #[.string t593, .int .i64 t594, (.slice Ao27 t595.length co27)] 25 (0, 0))) ∧ Aside0 (wc.heap[gb608]? = some (.cells #[.string t601, .int .i64 t602, (.slice Ao34 t603.length co34), .int .i64 t606, .int .i64 t607] 29 (0, 0))) ∧ Aside0 (wc.heap[gb616]? = some (.cells #[.string t609, .int .i64 t610, (.slice Ao42 t611.length co42)] 25 (0, 0))) ∧ Aside0 (wc.heap[gb624]? = some (.cells #[.string t617, .int .i64 t618, (.slice Ao51 t619.length co51), .int .i64 t622, .int .i64 t623] 29 (0, 0))) ∧ Aside0 (Below w.heap.size w wc))
   case first => as_aux_lemma =>
    have H := HC12.out
    clear HC12
    replace H := Option.bind_eq_some_iff.mp H
    obtain ⟨⟨t625, t626, t627, t630, t631⟩, A520, H⟩ := H
    (try dsimp -simprocs only at H)
    have A52 := Aside0.mk A520
    clear A520
    try go_wp2
    obtain ⟨w66, hq_⟩ : ∃ W_, W_ = (((((w44.setCell ⟨gb624, 0, none⟩ (.string t617)).setCell ⟨gb624, 1, none⟩ (.int .i64 t618)).setCell ⟨gb624, 2, none⟩ (.slice Ao51 t619.length co51)).setCell ⟨gb624, 3, none⟩ (.int .i64 t622)).setCell ⟨gb624, 4, none⟩ (.int .i64 t623)) := ⟨_, rfl⟩
    rw [← hq_]
    have n0_ : Aside0 (Kd.R k43 43 w66 w.heap.size (fun k_ => some k_ ≠ (.slice Ao21 t587.length co21 : Value).ownBlock ∧ some k_ ≠ (.slice Ao27 t595.length co27 : Value).ownBlock ∧ some k_ ≠ (.slice Ao34 t603.length co34 : Value).ownBlock ∧ some k_ ≠ (.slice Ao42 t611.length co42 : Value).ownBlock ∧ some k_ ≠ (.slice Ao51 t619.length co51 : Value).ownBlock) (.slice Ao16 t580.length co16) t580) := ⟨by rw [hq_]; exact Kd.R_mono (rfa (rfa (rfa (rfa (rfa (Kd.R_types HO582.out BK624.out (by decide)) (fun _ h => h.2)) (fun _ h => h.2)) (fun _ h => h.2)) (fun _ h => h.2)) (fun _ h => h.2)) (fun _ hk => ⟨hk.1.1.1.1.1.2, ⟨hk.1.1.1.1.2, ⟨hk.1.1.1.2, ⟨hk.1.1.2, hk.1.2⟩⟩⟩⟩)⟩
    have n1_ : Aside0 (Kd.R k43 43 w66 w.heap.size (fun k_ => some k_ ≠ (.slice Ao16 t580.length co16 : Value).ownBlock ∧ some k_ ≠ (.slice Ao27 t595.length co27 : Value).ownBlock ∧ some k_ ≠ (.slice Ao34 t603.length co34 : Value).ownBlock ∧ some k_ ≠ (.slice Ao42 t611.length co42 : Value).ownBlock ∧ some k_ ≠ (.slice Ao51 t619.length co51 : Value).ownBlock) (.slice Ao21 t587.length co21) t587) := ⟨by rw [hq_]; exact Kd.R_mono (rfa (rfa (rfa (rfa (rfa (Kd.R_types HO589.out BK624.out (by decide)) (fun _ h => h.2)) (fun _ h => h.2)) (fun _ h => h.2)) (fun _ h => h.2)) (fun _ h => h.2)) (fun _ hk => ⟨hk.1.1.1.1.1.2, ⟨hk.1.1.1.1.2, ⟨hk.1.1.1.2, ⟨hk.1.1.2, hk.1.2⟩⟩⟩⟩)⟩
    have n2_ : Aside0 (Kd.R k43 43 w66 w.heap.size (fun k_ => some k_ ≠ (.slice Ao16 t580.length co16 : Value).ownBlock ∧ some k_ ≠ (.slice Ao21 t587.length co21 : Value).ownBlock ∧ some k_ ≠ (.slice Ao34 t603.length co34 : Value).ownBlock ∧ some k_ ≠ (.slice Ao42 t611.length co42 : Value).ownBlock ∧ some k_ ≠ (.slice Ao51 t619.length co51 : Value).ownBlock) (.slice Ao27 t595.length co27) t595) := ⟨by rw [hq_]; exact Kd.R_mono (rfa (rfa (rfa (rfa (rfa (Kd.R_types HO597.out BK624.out (by decide)) (fun _ h => h.2)) (fun _ h => h.2)) (fun _ h => h.2)) (fun _ h => h.2)) (fun _ h => h.2)) (fun _ hk => ⟨hk.1.1.1.1.1.2, ⟨hk.1.1.1.1.2, ⟨hk.1.1.1.2, ⟨hk.1.1.2, hk.1.2⟩⟩⟩⟩)⟩
    have n3_ : Aside0 (Kd.R k43 43 w66 w.heap.size (fun k_ => some k_ ≠ (.slice Ao16 t580.length co16 : Value).ownBlock ∧ some k_ ≠ (.slice Ao21 t587.length co21 : Value).ownBlock ∧ some k_ ≠ (.slice Ao27 t595.length co27 : Value).ownBlock ∧ some k_ ≠ (.slice Ao42 t611.length co42 : Value).ownBlock ∧ some k_ ≠ (.slice Ao51 t619.length co51 : Value).ownBlock) (.slice Ao34 t603.length co34) t603) := ⟨by rw [hq_]; exact Kd.R_mono (rfa (rfa (rfa (rfa (rfa (Kd.R_types HO605.out BK624.out (by decide)) (fun _ h => h.2)) (fun _ h => h.2)) (fun _ h => h.2)) (fun _ h => h.2)) (fun _ h => h.2)) (fun _ hk => ⟨hk.1.1.1.1.1.2, ⟨hk.1.1.1.1.2, ⟨hk.1.1.1.2, ⟨hk.1.1.2, hk.1.2⟩⟩⟩⟩)⟩
    have n4_ : Aside0 (Kd.R k43 43 w66 w.heap.size (fun k_ => some k_ ≠ (.slice Ao16 t580.length co16 : Value).ownBlock ∧ some k_ ≠ (.slice Ao21 t587.length co21 : Value).ownBlock ∧ some k_ ≠ (.slice Ao27 t595.length co27 : Value).ownBlock ∧ some k_ ≠ (.slice Ao34 t603.length co34 : Value).ownBlock ∧ some k_ ≠ (.slice Ao51 t619.length co51 : Value).ownBlock) (.slice Ao42 t611.length co42) t611) := ⟨by rw [hq_]; exact Kd.R_mono (rfa (rfa (rfa (rfa (rfa (Kd.R_types HO613.out BK624.out (by decide)) (fun _ h => h.2)) (fun _ h => h.2)) (fun _ h => h.2)) (fun _ h => h.2)) (fun _ h => h.2)) (fun _ hk => ⟨hk.1.1.1.1.1.2, ⟨hk.1.1.1.1.2, ⟨hk.1.1.1.2, ⟨hk.1.1.2, hk.1.2⟩⟩⟩⟩)⟩
    have n5_ : Aside0 (Kd.R k43 43 w66 w.heap.size (fun k_ => some k_ ≠ (.slice Ao16 t580.length co16 : Value).ownBlock ∧ some k_ ≠ (.slice Ao21 t587.length co21 : Value).ownBlock ∧ some k_ ≠ (.slice Ao27 t595.length co27 : Value).ownBlock ∧ some k_ ≠ (.slice Ao34 t603.length co34 : Value).ownBlock ∧ some k_ ≠ (.slice Ao42 t611.length co42 : Value).ownBlock) (.slice Ao51 t619.length co51) t619) := ⟨by rw [hq_]; exact Kd.R_mono (rfa (rfa (rfa (rfa (rfa (Kd.R_types HO621.out BK624.out (by decide)) (fun _ h => h.2)) (fun _ h => h.2)) (fun _ h => h.2)) (fun _ h => h.2)) (fun _ h => h.2)) (fun _ hk => ⟨hk.1.1.1.1.1.2, ⟨hk.1.1.1.1.2, ⟨hk.1.1.1.2, ⟨hk.1.1.2, hk.1.2⟩⟩⟩⟩)⟩
    have n6_ : Aside0 (w66.heap[gb584]? = some (.cells #[.string t578, .int .i64 t579, .slice Ao16 t580.length co16] 25 (0, 0))) := ⟨by rw [hq_]; refine blk_far ?_ NB584_624.out _; refine blk_far ?_ NB584_624.out _; refine blk_far ?_ NB584_624.out _; refine blk_far ?_ NB584_624.out _; refine blk_far ?_ NB584_624.out _; exact BK584.out⟩
    have n7_ : Aside0 (w66.heap[gb592]? = some (.cells #[.string t585, .int .i64 t586, .slice Ao21 t587.length co21, .int .i64 t590, .int .i64 t591] 29 (0, 0))) := ⟨by rw [hq_]; refine blk_far ?_ NB592_624.out _; refine blk_far ?_ NB592_624.out _; refine blk_far ?_ NB592_624.out _; refine blk_far ?_ NB592_624.out _; refine blk_far ?_ NB592_624.out _; exact BK592.out⟩
    have n8_ : Aside0 (w66.heap[gb600]? = some (.cells #[.string t593, .int .i64 t594, .slice Ao27 t595.length co27] 25 (0, 0))) := ⟨by rw [hq_]; refine blk_far ?_ NB600_624.out _; refine blk_far ?_ NB600_624.out _; refine blk_far ?_ NB600_624.out _; refine blk_far ?_ NB600_624.out _; refine blk_far ?_ NB600_624.out _; exact BK600.out⟩
    have n9_ : Aside0 (w66.heap[gb608]? = some (.cells #[.string t601, .int .i64 t602, .slice Ao34 t603.length co34, .int .i64 t606, .int .i64 t607] 29 (0, 0))) := ⟨by rw [hq_]; refine blk_far ?_ NB608_624.out _; refine blk_far ?_ NB608_624.out _; refine blk_far ?_ NB608_624.out _; refine blk_far ?_ NB608_624.out _; refine blk_far ?_ NB608_624.out _; exact BK608.out⟩
    have n10_ : Aside0 (w66.heap[gb616]? = some (.cells #[.string t609, .int .i64 t610, .slice Ao42 t611.length co42] 25 (0, 0))) := ⟨by rw [hq_]; refine blk_far ?_ NB616_624.out _; refine blk_far ?_ NB616_624.out _; refine blk_far ?_ NB616_624.out _; refine blk_far ?_ NB616_624.out _; refine blk_far ?_ NB616_624.out _; exact BK616.out⟩
    have n11_ : Aside0 (w66.heap[gb624]? = some (.cells #[.string t617, .int .i64 t618, .slice Ao51 t619.length co51, .int .i64 t622, .int .i64 t623] 29 (0, 0))) := ⟨by rw [hq_]; apply bp5; exact BK624.out⟩
    have n12_ : Aside0 (Below w.heap.size w w66) := ⟨by rw [hq_]; repeat ((with_reducible first | exact HB.out | refine below_set ?_ GE624.out))⟩
    (try clear HO582)
    (try clear HO589)
    (try clear HO597)
    (try clear HO605)
    (try clear HO613)
    (try clear HO621)
    (try clear BK584)
    (try clear BK592)
    (try clear BK600)
    (try clear BK608)
    (try clear BK616)
    (try clear BK624)
    (try clear HB)
    clear hq_
    have HO582 := n0_
    have HO589 := n1_
    have HO597 := n2_
    have HO605 := n3_
    have HO613 := n4_
    have HO621 := n5_
    have BK584 := n6_
    have BK592 := n7_
    have BK600 := n8_
    have BK608 := n9_
    have BK616 := n10_
    have BK624 := n11_
    have HB := n12_
    clear n0_ n1_ n2_ n3_ n4_ n5_ n6_ n7_ n8_ n9_ n10_ n11_ n12_
    replace HO582 := Aside0.mk (Kd.R_drew HO582.out)
    replace HO589 := Aside0.mk (Kd.R_drew HO589.out)
    replace HO597 := Aside0.mk (Kd.R_drew HO597.out)
    replace HO605 := Aside0.mk (Kd.R_drew HO605.out)
    replace HO613 := Aside0.mk (Kd.R_drew HO613.out)
    replace HO621 := Aside0.mk (Kd.R_drew HO621.out)
    replace BK584 := Aside0.mk (blk_drew BK584.out)
    replace BK592 := Aside0.mk (blk_drew BK592.out)
    replace BK600 := Aside0.mk (blk_drew BK600.out)
    replace BK608 := Aside0.mk (blk_drew BK608.out)
    replace BK616 := Aside0.mk (blk_drew BK616.out)
    replace BK624 := Aside0.mk (blk_drew BK624.out)
    replace HB := Aside0.mk (below_drew1 HB.out)
    refine start_ (n := 59) (S := fun w' => w'.cell? ⟨gb592, 0, none⟩ = some (.string t585) ∧ w'.cell? ⟨gb592, 1, none⟩ = some (.int .i64 t586) ∧ w'.cell? ⟨gb592, 2, none⟩ = some (.slice Ao21 t587.length co21) ∧ w'.cell? ⟨gb592, 3, none⟩ = some (.int .i64 t590) ∧ w'.cell? ⟨gb592, 4, none⟩ = some (.int .i64 t591) ∧ w'.cell? ⟨gb584, 0, none⟩ = some (.string t578) ∧ w'.cell? ⟨gb584, 1, none⟩ = some (.int .i64 t579) ∧ w'.cell? ⟨gb584, 2, none⟩ = some (.slice Ao16 t580.length co16) ∧ w'.cell? ⟨gb608, 0, none⟩ = some (.string t601) ∧ w'.cell? ⟨gb608, 1, none⟩ = some (.int .i64 t602) ∧ w'.cell? ⟨gb608, 2, none⟩ = some (.slice Ao34 t603.length co34) ∧ w'.cell? ⟨gb608, 3, none⟩ = some (.int .i64 t606) ∧ w'.cell? ⟨gb608, 4, none⟩ = some (.int .i64 t607) ∧ w'.cell? ⟨gb600, 0, none⟩ = some (.string t593) ∧ w'.cell? ⟨gb600, 1, none⟩ = some (.int .i64 t594) ∧ w'.cell? ⟨gb600, 2, none⟩ = some (.slice Ao27 t595.length co27) ∧ w'.cell? ⟨gb624, 0, none⟩ = some (.string t617) ∧ w'.cell? ⟨gb624, 1, none⟩ = some (.int .i64 t618) ∧ w'.cell? ⟨gb624, 2, none⟩ = some (.slice Ao51 t619.length co51) ∧ w'.cell? ⟨gb624, 3, none⟩ = some (.int .i64 t622) ∧ w'.cell? ⟨gb624, 4, none⟩ = some (.int .i64 t623) ∧ w'.cell? ⟨gb616, 0, none⟩ = some (.string t609) ∧ w'.cell? ⟨gb616, 1, none⟩ = some (.int .i64 t610) ∧ w'.cell? ⟨gb616, 2, none⟩ = some (.slice Ao42 t611.length co42)) (ds := []) zm0_17 (by kernel_rfl) rfl rfl ⟨(blk_cell BK592.out 0).trans rfl, (blk_cell BK592.out 1).trans rfl, (blk_cell BK592.out 2).trans rfl, (blk_cell BK592.out 3).trans rfl, (blk_cell BK592.out 4).trans rfl, (blk_cell BK584.out 0).trans rfl, (blk_cell BK584.out 1).trans rfl, (blk_cell BK584.out 2).trans rfl, (blk_cell BK608.out 0).trans rfl, (blk_cell BK608.out 1).trans rfl, (blk_cell BK608.out 2).trans rfl, (blk_cell BK608.out 3).trans rfl, (blk_cell BK608.out 4).trans rfl, (blk_cell BK600.out 0).trans rfl, (blk_cell BK600.out 1).trans rfl, (blk_cell BK600.out 2).trans rfl, (blk_cell BK624.out 0).trans rfl, (blk_cell BK624.out 1).trans rfl, (blk_cell BK624.out 2).trans rfl, (blk_cell BK624.out 3).trans rfl, (blk_cell BK624.out 4).trans rfl, (blk_cell BK616.out 0).trans rfl, (blk_cell BK616.out 1).trans rfl, (blk_cell BK616.out 2).trans rfl⟩ (fun hHeld => ?_); refine with_tabW laws_FnDialback.tab9 laws_FnDialback.bits9 (fun HT_ HW_ => ?_)
    generalize w66.drew = w67 at HO582 HO589 HO597 HO605 HO613 HO621 BK584 BK592 BK600 BK608 BK616 BK624 HB hHeld ⊢
    refine zp 0 (some 57) zm1_17 HT_ ?_
    refine zp 3 (some 60) zm2_17 HT_ ?_
    refine zt 1 (some 58) zm3_17 HT_ HW_ hHeld ?_
    refine zt 2 (some 59) zm4_17 HT_ HW_ hHeld ?_
    refine one_ (i := 4) (N := some 61) zm5_17 rfl rfl (one_of HT_.out (by kernel_rfl)) (by decide) (fun K hK => ?_)
    refine goes_ Tryd.func10 (by kernel_rfl) rfl #[.agg #[.string t578, .int .i64 t579, .slice Ao16 t580.length co16], .string t583] (by rfl) rfl rfl zb1_17 ?_
    with_reducible refine (spec_DbOpen.calls kj2 t578 t579 _ _ t580 t583 t625 t626 t627 t630 t631 _ ?side1 ?side2 A52.out).mono ?_
    (case side1 => repeat ((exact (Kd.R_reads' HO582.out).2.2)))
    (case side2 => exact (Kd.R_reads' HO582.out).2.1)
    rintro e w68 ⟨v628, rfl, ho0, hb⟩
    refine ⟨_, rfl, ?_⟩
    have HO629 := Aside0.mk (Kd.R_lower (Kd.R_new' (Kd.R_new' (Kd.R_new' (Kd.R_new' (Kd.R_new' (Kd.R_new' ho0 (Kd.R_lt zb3_17)) (Kd.R_lt zb7_17)) (Kd.R_lt zb12_17)) (Kd.R_lt zb18_17)) (Kd.R_lt zb23_17)) (Kd.R_lt zb29_17)) (below_size zb33_17))
    replace HO582 := Aside0.mk (Kd.R_elder' zb3_17 (Kd.R_base ho0) hb)
    replace HO589 := Aside0.mk (Kd.R_elder' zb7_17 (Kd.R_base ho0) hb)
    replace HO597 := Aside0.mk (Kd.R_elder' zb12_17 (Kd.R_base ho0) hb)
    replace HO605 := Aside0.mk (Kd.R_elder' zb18_17 (Kd.R_base ho0) hb)
    replace HO613 := Aside0.mk (Kd.R_elder' zb23_17 (Kd.R_base ho0) hb)
    replace HO621 := Aside0.mk (Kd.R_elder' zb29_17 (Kd.R_base ho0) hb)
    replace BK584 := bkb BK584 hb
    replace BK592 := bkb BK592 hb
    replace BK600 := bkb BK600 hb
    replace BK608 := bkb BK608 hb
    replace BK616 := bkb BK616 hb
    replace BK624 := bkb BK624 hb
    replace HB := Aside0.mk (below_step zb33_17 hb)
    (try clear hb)
    (try clear ho0)
    refine hK.out _ _ zk0_17 (fun hHeld => ?_)
    clear hK K
    refine zn (some 61) ?_
    refine zp 5 (some 62) zm6_17 HT_ ?_
    refine zp 6 (some 63) zm7_17 HT_ ?_
    refine zp 7 (some 64) zm8_17 HT_ ?_
    by_cases c53 : t591 = t631
    rotate_left
    ·
     rw [if_neg c53] at H
     have c53b0 : (t591 == t631) = false := beq_eq_false_iff_ne.mpr c53
     have c53b1 : (t591 != t631) = true := bne_iff_ne.mpr c53
     have H' := Aside0.mk H
     clear H
     (try rw [c53b1])
     refine zu 8 (some 65) zm9_17 HT_ ?_
     refine zu 9 (some 66) zm72_17 HT_ ?_
     refine zu 10 (some 67) zm73_17 HT_ ?_
     refine zu 11 (some 68) zm12_17 HT_ ?_
     refine zu 12 (some 69) zm13_17 HT_ ?_
     refine zu 13 (some 70) zm14_17 HT_ ?_
     refine zu 14 (some 71) zm15_17 HT_ ?_
     refine zu 15 (some 72) zm16_17 HT_ ?_
     refine zp 16 (some 73) zm17_17 HT_ ?_
     refine zp 17 (some 74) zm18_17 HT_ ?_
     refine zu 18 (some 75) zm19_17 HT_ ?_
     refine zu 19 (some 76) zm69_17 HT_ ?_
     refine zu 20 (some 77) zm70_17 HT_ ?_
     refine zu 21 (some 78) zm71_17 HT_ ?_
     refine zu 22 (some 79) zm23_17 HT_ ?_
     refine zu 23 (some 80) zm24_17 HT_ ?_
     refine zu 24 (some 81) zm25_17 HT_ ?_
     refine zu 25 (some 82) zm26_17 HT_ ?_
     refine zp 26 (some 83) zm27_17 HT_ ?_
     refine zp 27 (some 84) zm28_17 HT_ ?_
     refine zu 28 (some 85) zm29_17 HT_ ?_
     refine zu 29 (some 86) zm66_17 HT_ ?_
     refine zu 30 (some 87) zm67_17 HT_ ?_
     refine zu 31 (some 88) zm68_17 HT_ ?_
     refine zu 32 (some 89) zm33_17 HT_ ?_
     refine zu 33 (some 90) zm34_17 HT_ ?_
     refine zu 34 (some 91) zm35_17 HT_ ?_
     refine zu 35 (some 92) zm36_17 HT_ ?_
     refine zu 36 (some 93) zm37_17 HT_ ?_
     refine zp 37 (some 94) zm38_17 HT_ ?_
     refine zp 38 (some 95) zm39_17 HT_ ?_
     refine zu 39 (some 96) zm40_17 HT_ ?_
     refine zu 40 (some 97) zm63_17 HT_ ?_
     refine zu 41 (some 98) zm64_17 HT_ ?_
     refine zu 42 (some 99) zm65_17 HT_ ?_
     refine zu 43 (some 100) zm44_17 HT_ ?_
     refine zu 44 (some 101) zm45_17 HT_ ?_
     refine zu 45 (some 102) zm46_17 HT_ ?_
     refine zu 46 (some 103) zm47_17 HT_ ?_
     refine zp 47 (some 104) zm48_17 HT_ ?_
     refine zp 48 (some 105) zm49_17 HT_ ?_
     refine zu 49 (some 106) zm50_17 HT_ ?_
     refine zu 50 (some 107) zm60_17 HT_ ?_
     refine zu 51 (some 108) zm61_17 HT_ ?_
     refine zu 52 (some 109) zm62_17 HT_ ?_
     refine zu 53 (some 110) zm54_17 HT_ ?_
     refine zu 54 (some 111) zm55_17 HT_ ?_
     refine zu 55 (some 112) zm56_17 HT_ ?_
     refine zu 56 (some 113) zm57_17 HT_ ?_
     refine zu 57 (some 114) zm58_17 HT_ ?_
     refine zp 58 (some 115) zm59_17 HT_ ?_
     refine done_ (done_of HT_.out (by kernel_rfl)) ?_
     try go_wp2
     go_meet
     case rel => exact ⟨_, (true), zb0_17, H', ⟨by have := HJ2.out; omega⟩, ⟨by exact Kd.R_mono HO582.out (fun _ hk => ⟨hk.1.1, ⟨hk.1.2.1, ⟨hk.1.2.2.1, ⟨hk.1.2.2.2.1, hk.1.2.2.2.2⟩⟩⟩⟩)⟩, ⟨by exact Kd.R_mono HO589.out (fun _ hk => ⟨hk.1.1, ⟨hk.1.2.1, ⟨hk.1.2.2.1, ⟨hk.1.2.2.2.1, hk.1.2.2.2.2⟩⟩⟩⟩)⟩, ⟨by exact Kd.R_mono HO597.out (fun _ hk => ⟨hk.1.1, ⟨hk.1.2.1, ⟨hk.1.2.2.1, ⟨hk.1.2.2.2.1, hk.1.2.2.2.2⟩⟩⟩⟩)⟩, ⟨by exact Kd.R_mono HO605.out (fun _ hk => ⟨hk.1.1, ⟨hk.1.2.1, ⟨hk.1.2.2.1, ⟨hk.1.2.2.2.1, hk.1.2.2.2.2⟩⟩⟩⟩)⟩, ⟨by exact Kd.R_mono HO613.out (fun _ hk => ⟨hk.1.1, ⟨hk.1.2.1, ⟨hk.1.2.2.1, ⟨hk.1.2.2.2.1, hk.1.2.2.2.2⟩⟩⟩⟩)⟩, ⟨by exact Kd.R_mono HO621.out (fun _ hk => ⟨hk.1.1, ⟨hk.1.2.1, ⟨hk.1.2.2.1, ⟨hk.1.2.2.2.1, hk.1.2.2.2.2⟩⟩⟩⟩)⟩, ⟨by exact BK584.out⟩, ⟨by exact BK592.out⟩, ⟨by exact BK600.out⟩, ⟨by exact BK608.out⟩, ⟨by exact BK616.out⟩, ⟨by exact BK624.out⟩, ⟨by repeat ((with_reducible (exact HB.out)))⟩⟩
    rw [if_pos c53] at H
    have c53b0 : (t591 == t631) = true := beq_iff_eq.mpr c53
    have c53b1 : (t591 != t631) = false := bne_eq_false_iff_eq.mpr c53
    clear c53
    replace H := Option.bind_eq_some_iff.mp H
    obtain ⟨⟨t632, t633, t634, t637, t638⟩, A540, H⟩ := H
    (try dsimp -simprocs only at H)
    have A54 := Aside0.mk A540
    clear A540
    replace H := Option.bind_eq_some_iff.mp H
    obtain ⟨t639, A550, H⟩ := H
    (try dsimp -simprocs only at H)
    have A55 := Aside0.mk A550
    clear A550
    (try rw [c53b1])
    refine zp 8 (some 65) zm9_17 HT_ ?_
    refine zp 11 (some 68) zm10_17 HT_ ?_
    refine zt 9 (some 66) zm11_17 HT_ HW_ hHeld ?_
    refine zt 10 (some 67) zm12_17 HT_ HW_ hHeld ?_
    refine one_ (i := 12) (N := some 69) zm13_17 rfl rfl (one_of HT_.out (by kernel_rfl)) (by decide) (fun K hK => ?_)
    refine goes_ Tryd.func10 (by kernel_rfl) rfl #[.agg #[.string t578, .int .i64 t579, .slice Ao16 t580.length co16], .string t583] (by rfl) rfl rfl zb1_17 ?_
    with_reducible refine (spec_DbOpen.calls kj2 t578 t579 _ _ t580 t583 t632 t633 t634 t637 t638 _ ?side1 ?side2 A54.out).mono ?_
    (case side1 => repeat ((exact (Kd.R_reads' HO582.out).2.2)))
    (case side2 => exact (Kd.R_reads' HO582.out).2.1)
    rintro e w69 ⟨v635, rfl, ho0, hb⟩
    refine ⟨_, rfl, ?_⟩
    have HO636 := Aside0.mk (Kd.R_lower (Kd.R_new' (Kd.R_new' (Kd.R_new' (Kd.R_new' (Kd.R_new' (Kd.R_new' (Kd.R_new' ho0 (Kd.R_lt zb3_17)) (Kd.R_lt zb7_17)) (Kd.R_lt zb12_17)) (Kd.R_lt zb18_17)) (Kd.R_lt zb23_17)) (Kd.R_lt zb29_17)) (Kd.R_lt zb35_17)) (below_size zb33_17))
    replace HO582 := Aside0.mk (Kd.R_elder' zb3_17 (Kd.R_base ho0) hb)
    replace HO589 := Aside0.mk (Kd.R_elder' zb7_17 (Kd.R_base ho0) hb)
    replace HO597 := Aside0.mk (Kd.R_elder' zb12_17 (Kd.R_base ho0) hb)
    replace HO605 := Aside0.mk (Kd.R_elder' zb18_17 (Kd.R_base ho0) hb)
    replace HO613 := Aside0.mk (Kd.R_elder' zb23_17 (Kd.R_base ho0) hb)
    replace HO621 := Aside0.mk (Kd.R_elder' zb29_17 (Kd.R_base ho0) hb)
    replace HO629 := Aside0.mk (Kd.R_elder' zb35_17 (Kd.R_base ho0) hb)
    replace BK584 := bkb BK584 hb
    replace BK592 := bkb BK592 hb
    replace BK600 := bkb BK600 hb
    replace BK608 := bkb BK608 hb
    replace BK616 := bkb BK616 hb
    replace BK624 := bkb BK624 hb
    replace HB := Aside0.mk (below_step zb33_17 hb)
    (try clear hb)
    (try clear ho0)
    obtain ⟨Ao70, co70, eo70⟩ := Kd.R_slice HO636.out
    ((subst eo70))
    refine hK.out _ _ zk0_17 (fun hHeld => ?_)
    clear hK K
    refine zn (some 69) ?_
    refine zp 13 (some 70) zm14_17 HT_ ?_
    refine one_ (i := 14) (N := some 71) zm15_17 rfl rfl (one_of HT_.out (by kernel_rfl)) (by decide) (fun K hK => ?_)
    refine goes_ Tryd.func11 (by kernel_rfl) rfl #[.agg #[.string t585, .int .i64 t586, .slice Ao21 t587.length co21], .agg #[.string t632, .int .i64 t633, .slice Ao70 t634.length co70]] (by rfl) rfl rfl zb1_17 ?_
    by_cases c56 : t639 = true
    rotate_left
    ·
     replace c56 := Bool.eq_false_iff.mpr c56
     subst c56
     rw [if_neg (show ¬ (false = true) by decide)] at H
     have H' := Aside0.mk H
     clear H
     with_reducible refine (laws_lwDialback.calls kj2 t585 t586 _ _ t587 t632 t633 _ _ t634 false _ ?side1 ?side2 ?side3 ?side4 A55.out).mono ?_
     (case side1 => repeat ((exact (Kd.R_reads' HO589.out).2.2)))
     (case side2 => exact (Kd.R_reads' HO589.out).2.1)
     (case side3 => repeat ((exact (Kd.R_reads' HO636.out).2.2)))
     (case side4 => exact (Kd.R_reads' HO636.out).2.1)
     rintro e w113 ⟨rfl, hb⟩
     refine ⟨_, rfl, ?_⟩
     replace HO582 := Aside0.mk (Kd.R_below zb3_17 hb)
     replace HO589 := Aside0.mk (Kd.R_below zb7_17 hb)
     replace HO597 := Aside0.mk (Kd.R_below zb12_17 hb)
     replace HO605 := Aside0.mk (Kd.R_below zb18_17 hb)
     replace HO613 := Aside0.mk (Kd.R_below zb23_17 hb)
     replace HO621 := Aside0.mk (Kd.R_below zb29_17 hb)
     replace BK584 := bkb BK584 hb
     replace BK592 := bkb BK592 hb
     replace BK600 := bkb BK600 hb
     replace BK608 := bkb BK608 hb
     replace BK616 := bkb BK616 hb
     replace BK624 := bkb BK624 hb
     replace HB := Aside0.mk (below_step zb33_17 hb)
     (try clear hb)
     refine hK.out _ _ zk0_17 (fun hHeld => ?_)
     clear hK K
     refine zn (some 71) ?_
     refine zp 15 (some 72) zm16_17 HT_ ?_
     refine zp 16 (some 73) zm17_17 HT_ ?_
     refine zp 17 (some 74) zm18_17 HT_ ?_
     refine zu 18 (some 75) zm19_17 HT_ ?_
     refine zu 19 (some 76) zm69_17 HT_ ?_
     refine zu 20 (some 77) zm70_17 HT_ ?_
     refine zu 21 (some 78) zm71_17 HT_ ?_
     refine zu 22 (some 79) zm23_17 HT_ ?_
     refine zu 23 (some 80) zm24_17 HT_ ?_
     refine zu 24 (some 81) zm25_17 HT_ ?_
     refine zu 25 (some 82) zm26_17 HT_ ?_
     refine zp 26 (some 83) zm27_17 HT_ ?_
     refine zp 27 (some 84) zm28_17 HT_ ?_
     refine zu 28 (some 85) zm29_17 HT_ ?_
     refine zu 29 (some 86) zm66_17 HT_ ?_
     refine zu 30 (some 87) zm67_17 HT_ ?_
     refine zu 31 (some 88) zm68_17 HT_ ?_
     refine zu 32 (some 89) zm33_17 HT_ ?_
     refine zu 33 (some 90) zm34_17 HT_ ?_
     refine zu 34 (some 91) zm35_17 HT_ ?_
     refine zu 35 (some 92) zm36_17 HT_ ?_
     refine zu 36 (some 93) zm37_17 HT_ ?_
     refine zp 37 (some 94) zm38_17 HT_ ?_
     refine zp 38 (some 95) zm39_17 HT_ ?_
     refine zu 39 (some 96) zm40_17 HT_ ?_
     refine zu 40 (some 97) zm63_17 HT_ ?_
     refine zu 41 (some 98) zm64_17 HT_ ?_
     refine zu 42 (some 99) zm65_17 HT_ ?_
     refine zu 43 (some 100) zm44_17 HT_ ?_
     refine zu 44 (some 101) zm45_17 HT_ ?_
     refine zu 45 (some 102) zm46_17 HT_ ?_
     refine zu 46 (some 103) zm47_17 HT_ ?_
     refine zp 47 (some 104) zm48_17 HT_ ?_
     refine zp 48 (some 105) zm49_17 HT_ ?_
     refine zu 49 (some 106) zm50_17 HT_ ?_
     refine zu 50 (some 107) zm60_17 HT_ ?_
     refine zu 51 (some 108) zm61_17 HT_ ?_
     refine zu 52 (some 109) zm62_17 HT_ ?_
     refine zu 53 (some 110) zm54_17 HT_ ?_
     refine zu 54 (some 111) zm55_17 HT_ ?_
     refine zu 55 (some 112) zm56_17 HT_ ?_
     refine zu 56 (some 113) zm57_17 HT_ ?_
     refine zu 57 (some 114) zm58_17 HT_ ?_
     refine zp 58 (some 115) zm59_17 HT_ ?_
     refine done_ (done_of HT_.out (by kernel_rfl)) ?_
     try go_wp2
     go_meet
     case rel => exact ⟨_, (true), zb0_17, H', ⟨by have := HJ2.out; omega⟩, ⟨by exact Kd.R_mono HO582.out (fun _ hk => ⟨hk.1.1.1, ⟨hk.1.1.2.1, ⟨hk.1.1.2.2.1, ⟨hk.1.1.2.2.2.1, hk.1.1.2.2.2.2⟩⟩⟩⟩)⟩, ⟨by exact Kd.R_mono HO589.out (fun _ hk => ⟨hk.1.1.1, ⟨hk.1.1.2.1, ⟨hk.1.1.2.2.1, ⟨hk.1.1.2.2.2.1, hk.1.1.2.2.2.2⟩⟩⟩⟩)⟩, ⟨by exact Kd.R_mono HO597.out (fun _ hk => ⟨hk.1.1.1, ⟨hk.1.1.2.1, ⟨hk.1.1.2.2.1, ⟨hk.1.1.2.2.2.1, hk.1.1.2.2.2.2⟩⟩⟩⟩)⟩, ⟨by exact Kd.R_mono HO605.out (fun _ hk => ⟨hk.1.1.1, ⟨hk.1.1.2.1, ⟨hk.1.1.2.2.1, ⟨hk.1.1.2.2.2.1, hk.1.1.2.2.2.2⟩⟩⟩⟩)⟩, ⟨by exact Kd.R_mono HO613.out (fun _ hk => ⟨hk.1.1.1, ⟨hk.1.1.2.1, ⟨hk.1.1.2.2.1, ⟨hk.1.1.2.2.2.1, hk.1.1.2.2.2.2⟩⟩⟩⟩)⟩, ⟨by exact Kd.R_mono HO621.out (fun _ hk => ⟨hk.1.1.1, ⟨hk.1.1.2.1, ⟨hk.1.1.2.2.1, ⟨hk.1.1.2.2.2.1, hk.1.1.2.2.2.2⟩⟩⟩⟩)⟩, ⟨by exact BK584.out⟩, ⟨by exact BK592.out⟩, ⟨by exact BK600.out⟩, ⟨by exact BK608.out⟩, ⟨by exact BK616.out⟩, ⟨by exact BK624.out⟩, ⟨by repeat ((with_reducible (exact HB.out)))⟩⟩
    subst c56
    rw [if_pos rfl] at H
    replace H := Option.bind_eq_some_iff.mp H
    obtain ⟨⟨t640, t641, t642, t645, t646⟩, A570, H⟩ := H
    (try dsimp -simprocs only at H)
    have A57 := Aside0.mk A570
    clear A570
    with_reducible refine (laws_lwDialback.calls kj2 t585 t586 _ _ t587 t632 t633 _ _ t634 true _ ?side1 ?side2 ?side3 ?side4 A55.out).mono ?_
    (case side1 => repeat ((exact (Kd.R_reads' HO589.out).2.2)))
    (case side2 => exact (Kd.R_reads' HO589.out).2.1)
    (case side3 => repeat ((exact (Kd.R_reads' HO636.out).2.2)))
    (case side4 => exact (Kd.R_reads' HO636.out).2.1)
    rintro e w71 ⟨rfl, hb⟩
    refine ⟨_, rfl, ?_⟩
    replace HO582 := Aside0.mk (Kd.R_below zb3_17 hb)
    replace HO589 := Aside0.mk (Kd.R_below zb7_17 hb)
    replace HO597 := Aside0.mk (Kd.R_below zb12_17 hb)
    replace HO605 := Aside0.mk (Kd.R_below zb18_17 hb)
    replace HO613 := Aside0.mk (Kd.R_below zb23_17 hb)
    replace HO621 := Aside0.mk (Kd.R_below zb29_17 hb)
    replace HO629 := Aside0.mk (Kd.R_below zb35_17 hb)
    replace HO636 := Aside0.mk (Kd.R_below zb36_17 hb)
    replace BK584 := bkb BK584 hb
    replace BK592 := bkb BK592 hb
    replace BK600 := bkb BK600 hb
    replace BK608 := bkb BK608 hb
    replace BK616 := bkb BK616 hb
    replace BK624 := bkb BK624 hb
    replace HB := Aside0.mk (below_step zb33_17 hb)
    (try clear hb)
    refine hK.out _ _ zk0_17 (fun hHeld => ?_)
    clear hK K
    refine zn (some 71) ?_
    refine zp 15 (some 72) zm16_17 HT_ ?_
    refine zp 16 (some 73) zm17_17 HT_ ?_
    refine zp 17 (some 74) zm18_17 HT_ ?_
    refine zp 18 (some 75) zm19_17 HT_ ?_
    refine zp 21 (some 78) zm20_17 HT_ ?_
    refine zp 22 (some 79) zm21_17 HT_ ?_
    refine zt 19 (some 76) zm22_17 HT_ HW_ hHeld ?_
    refine zt 20 (some 77) zm23_17 HT_ HW_ hHeld ?_
    refine one_ (i := 23) (N := some 80) zm24_17 rfl rfl (one_of HT_.out (by kernel_rfl)) (by decide) (fun K hK => ?_)
    refine goes_ Tryd.func12 (by kernel_rfl) rfl #[.agg #[.string t593, .int .i64 t594, .slice Ao27 t595.length co27], .int .i64 t598, .string t599] (by rfl) rfl rfl zb1_17 ?_
    with_reducible refine (spec_DbResult.calls kj2 t593 t594 _ _ t595 t598 t599 t640 t641 t642 t645 t646 _ ?side1 ?side2 A57.out).mono ?_
    (case side1 => repeat ((exact (Kd.R_reads' HO597.out).2.2)))
    (case side2 => exact (Kd.R_reads' HO597.out).2.1)
    rintro e w72 ⟨v643, rfl, ho0, hb⟩
    refine ⟨_, rfl, ?_⟩
    have HO644 := Aside0.mk (Kd.R_lower (Kd.R_new' (Kd.R_new' (Kd.R_new' (Kd.R_new' (Kd.R_new' (Kd.R_new' (Kd.R_new' (Kd.R_new' ho0 (Kd.R_lt zb3_17)) (Kd.R_lt zb7_17)) (Kd.R_lt zb12_17)) (Kd.R_lt zb18_17)) (Kd.R_lt zb23_17)) (Kd.R_lt zb29_17)) (Kd.R_lt zb35_17)) (Kd.R_lt zb36_17)) (below_size zb33_17))
    replace HO582 := Aside0.mk (Kd.R_elder' zb3_17 (Kd.R_base ho0) hb)
    replace HO589 := Aside0.mk (Kd.R_elder' zb7_17 (Kd.R_base ho0) hb)
    replace HO597 := Aside0.mk (Kd.R_elder' zb12_17 (Kd.R_base ho0) hb)
    replace HO605 := Aside0.mk (Kd.R_elder' zb18_17 (Kd.R_base ho0) hb)
    replace HO613 := Aside0.mk (Kd.R_elder' zb23_17 (Kd.R_base ho0) hb)
    replace HO621 := Aside0.mk (Kd.R_elder' zb29_17 (Kd.R_base ho0) hb)
    replace HO629 := Aside0.mk (Kd.R_elder' zb35_17 (Kd.R_base ho0) hb)
    replace HO636 := Aside0.mk (Kd.R_elder' zb36_17 (Kd.R_base ho0) hb)
    replace BK584 := bkb BK584 hb
    replace BK592 := bkb BK592 hb
    replace BK600 := bkb BK600 hb
    replace BK608 := bkb BK608 hb
    replace BK616 := bkb BK616 hb
    replace BK624 := bkb BK624 hb
    replace HB := Aside0.mk (below_step zb33_17 hb)
    (try clear hb)
    (try clear ho0)
    refine hK.out _ _ zk0_17 (fun hHeld => ?_)
    clear hK K
    refine zn (some 80) ?_
    refine zp 24 (some 81) zm25_17 HT_ ?_
    refine zp 25 (some 82) zm26_17 HT_ ?_
    refine zp 26 (some 83) zm27_17 HT_ ?_
    refine zp 27 (some 84) zm28_17 HT_ ?_
    by_cases c58 : t607 = t646
    rotate_left
    ·
     rw [if_neg c58] at H
     have c58b0 : (t607 == t646) = false := beq_eq_false_iff_ne.mpr c58
     have c58b1 : (t607 != t646) = true := bne_iff_ne.mpr c58
     have H' := Aside0.mk H
     clear H
     (try rw [c58b1])
     refine zu 28 (some 85) zm29_17 HT_ ?_
     refine zu 29 (some 86) zm66_17 HT_ ?_
     refine zu 30 (some 87) zm67_17 HT_ ?_
     refine zu 31 (some 88) zm68_17 HT_ ?_
     refine zu 32 (some 89) zm33_17 HT_ ?_
     refine zu 33 (some 90) zm34_17 HT_ ?_
     refine zu 34 (some 91) zm35_17 HT_ ?_
     refine zu 35 (some 92) zm36_17 HT_ ?_
     refine zu 36 (some 93) zm37_17 HT_ ?_
     refine zp 37 (some 94) zm38_17 HT_ ?_
     refine zp 38 (some 95) zm39_17 HT_ ?_
     refine zu 39 (some 96) zm40_17 HT_ ?_
     refine zu 40 (some 97) zm63_17 HT_ ?_
     refine zu 41 (some 98) zm64_17 HT_ ?_
     refine zu 42 (some 99) zm65_17 HT_ ?_
     refine zu 43 (some 100) zm44_17 HT_ ?_
     refine zu 44 (some 101) zm45_17 HT_ ?_
     refine zu 45 (some 102) zm46_17 HT_ ?_
     refine zu 46 (some 103) zm47_17 HT_ ?_
     refine zp 47 (some 104) zm48_17 HT_ ?_
     refine zp 48 (some 105) zm49_17 HT_ ?_
     refine zu 49 (some 106) zm50_17 HT_ ?_
     refine zu 50 (some 107) zm60_17 HT_ ?_
     refine zu 51 (some 108) zm61_17 HT_ ?_
     refine zu 52 (some 109) zm62_17 HT_ ?_
     refine zu 53 (some 110) zm54_17 HT_ ?_
     refine zu 54 (some 111) zm55_17 HT_ ?_
     refine zu 55 (some 112) zm56_17 HT_ ?_
     refine zu 56 (some 113) zm57_17 HT_ ?_
     refine zu 57 (some 114) zm58_17 HT_ ?_
     refine zp 58 (some 115) zm59_17 HT_ ?_
     refine done_ (done_of HT_.out (by kernel_rfl)) ?_
     try go_wp2
     go_meet
     case rel => exact ⟨_, (true), zb0_17, H', ⟨by have := HJ2.out; omega⟩, ⟨by exact Kd.R_mono HO582.out (fun _ hk => ⟨hk.1.1.1.1, ⟨hk.1.1.1.2.1, ⟨hk.1.1.1.2.2.1, ⟨hk.1.1.1.2.2.2.1, hk.1.1.1.2.2.2.2⟩⟩⟩⟩)⟩, ⟨by exact Kd.R_mono HO589.out (fun _ hk => ⟨hk.1.1.1.1, ⟨hk.1.1.1.2.1, ⟨hk.1.1.1.2.2.1, ⟨hk.1.1.1.2.2.2.1, hk.1.1.1.2.2.2.2⟩⟩⟩⟩)⟩, ⟨by exact Kd.R_mono HO597.out (fun _ hk => ⟨hk.1.1.1.1, ⟨hk.1.1.1.2.1, ⟨hk.1.1.1.2.2.1, ⟨hk.1.1.1.2.2.2.1, hk.1.1.1.2.2.2.2⟩⟩⟩⟩)⟩, ⟨by exact Kd.R_mono HO605.out (fun _ hk => ⟨hk.1.1.1.1, ⟨hk.1.1.1.2.1, ⟨hk.1.1.1.2.2.1, ⟨hk.1.1.1.2.2.2.1, hk.1.1.1.2.2.2.2⟩⟩⟩⟩)⟩, ⟨by exact Kd.R_mono HO613.out (fun _ hk => ⟨hk.1.1.1.1, ⟨hk.1.1.1.2.1, ⟨hk.1.1.1.2.2.1, ⟨hk.1.1.1.2.2.2.1, hk.1.1.1.2.2.2.2⟩⟩⟩⟩)⟩, ⟨by exact Kd.R_mono HO621.out (fun _ hk => ⟨hk.1.1.1.1, ⟨hk.1.1.1.2.1, ⟨hk.1.1.1.2.2.1, ⟨hk.1.1.1.2.2.2.1, hk.1.1.1.2.2.2.2⟩⟩⟩⟩)⟩, ⟨by exact BK584.out⟩, ⟨by exact BK592.out⟩, ⟨by exact BK600.out⟩, ⟨by exact BK608.out⟩, ⟨by exact BK616.out⟩, ⟨by exact BK624.out⟩, ⟨by repeat ((with_reducible (exact HB.out)))⟩⟩
    rw [if_pos c58] at H
    have c58b0 : (t607 == t646) = true := beq_iff_eq.mpr c58
    have c58b1 : (t607 != t646) = false := bne_eq_false_iff_eq.mpr c58
    clear c58
    replace H := Option.bind_eq_some_iff.mp H
    obtain ⟨⟨t647, t648, t649, t652, t653⟩, A590, H⟩ := H
    (try dsimp -simprocs only at H)
    have A59 := Aside0.mk A590
    clear A590
    replace H := Option.bind_eq_some_iff.mp H
    obtain ⟨t654, A600, H⟩ := H
    (try dsimp -simprocs only at H)
    have A60 := Aside0.mk A600
    clear A600
    (try rw [c58b1])
    refine zp 28 (some 85) zm29_17 HT_ ?_
    refine zp 31 (some 88) zm30_17 HT_ ?_
    refine zp 32 (some 89) zm31_17 HT_ ?_
    refine zt 29 (some 86) zm32_17 HT_ HW_ hHeld ?_
    refine zt 30 (some 87) zm33_17 HT_ HW_ hHeld ?_
    refine one_ (i := 33) (N := some 90) zm34_17 rfl rfl (one_of HT_.out (by kernel_rfl)) (by decide) (fun K hK => ?_)
    refine goes_ Tryd.func12 (by kernel_rfl) rfl #[.agg #[.string t593, .int .i64 t594, .slice Ao27 t595.length co27], .int .i64 t598, .string t599] (by rfl) rfl rfl zb1_17 ?_
    with_reducible refine (spec_DbResult.calls kj2 t593 t594 _ _ t595 t598 t599 t647 t648 t649 t652 t653 _ ?side1 ?side2 A59.out).mono ?_
    (case side1 => repeat ((exact (Kd.R_reads' HO597.out).2.2)))
    (case side2 => exact (Kd.R_reads' HO597.out).2.1)
    rintro e w73 ⟨v650, rfl, ho0, hb⟩
    refine ⟨_, rfl, ?_⟩
    have HO651 := Aside0.mk (Kd.R_lower (Kd.R_new' (Kd.R_new' (Kd.R_new' (Kd.R_new' (Kd.R_new' (Kd.R_new' (Kd.R_new' (Kd.R_new' (Kd.R_new' ho0 (Kd.R_lt zb3_17)) (Kd.R_lt zb7_17)) (Kd.R_lt zb12_17)) (Kd.R_lt zb18_17)) (Kd.R_lt zb23_17)) (Kd.R_lt zb29_17)) (Kd.R_lt zb35_17)) (Kd.R_lt zb36_17)) (Kd.R_lt zb37_17)) (below_size zb33_17))
    replace HO582 := Aside0.mk (Kd.R_elder' zb3_17 (Kd.R_base ho0) hb)
    replace HO589 := Aside0.mk (Kd.R_elder' zb7_17 (Kd.R_base ho0) hb)
    replace HO597 := Aside0.mk (Kd.R_elder' zb12_17 (Kd.R_base ho0) hb)
    replace HO605 := Aside0.mk (Kd.R_elder' zb18_17 (Kd.R_base ho0) hb)
    replace HO613 := Aside0.mk (Kd.R_elder' zb23_17 (Kd.R_base ho0) hb)
    replace HO621 := Aside0.mk (Kd.R_elder' zb29_17 (Kd.R_base ho0) hb)
    replace HO629 := Aside0.mk (Kd.R_elder' zb35_17 (Kd.R_base ho0) hb)
    replace HO636 := Aside0.mk (Kd.R_elder' zb36_17 (Kd.R_base ho0) hb)
    replace HO644 := Aside0.mk (Kd.R_elder' zb37_17 (Kd.R_base ho0) hb)
    replace BK584 := bkb BK584 hb
    replace BK592 := bkb BK592 hb
    replace BK600 := bkb BK600 hb
    replace BK608 := bkb BK608 hb
    replace BK616 := bkb BK616 hb
    replace BK624 := bkb BK624 hb
    replace HB := Aside0.mk (below_step zb33_17 hb)
    (try clear hb)
    (try clear ho0)
    obtain ⟨Ao74, co74, eo74⟩ := Kd.R_slice HO651.out
    ((subst eo74))
    refine hK.out _ _ zk0_17 (fun hHeld => ?_)
    clear hK K
    refine zn (some 90) ?_
    refine zp 34 (some 91) zm35_17 HT_ ?_
    refine one_ (i := 35) (N := some 92) zm36_17 rfl rfl (one_of HT_.out (by kernel_rfl)) (by decide) (fun K hK => ?_)
    refine goes_ Tryd.func11 (by kernel_rfl) rfl #[.agg #[.string t601, .int .i64 t602, .slice Ao34 t603.length co34], .agg #[.string t647, .int .i64 t648, .slice Ao74 t649.length co74]] (by rfl) rfl rfl zb1_17 ?_
    by_cases c61 : t654 = true
    rotate_left
    ·
     replace c61 := Bool.eq_false_iff.mpr c61
     subst c61
     rw [if_neg (show ¬ (false = true) by decide)] at H
     have H' := Aside0.mk H
     clear H
     with_reducible refine (laws_lwDialback.calls kj2 t601 t602 _ _ t603 t647 t648 _ _ t649 false _ ?side1 ?side2 ?side3 ?side4 A60.out).mono ?_
     (case side1 => repeat ((exact (Kd.R_reads' HO605.out).2.2)))
     (case side2 => exact (Kd.R_reads' HO605.out).2.1)
     (case side3 => repeat ((exact (Kd.R_reads' HO651.out).2.2)))
     (case side4 => exact (Kd.R_reads' HO651.out).2.1)
     rintro e w100 ⟨rfl, hb⟩
     refine ⟨_, rfl, ?_⟩
     replace HO582 := Aside0.mk (Kd.R_below zb3_17 hb)
     replace HO589 := Aside0.mk (Kd.R_below zb7_17 hb)
     replace HO597 := Aside0.mk (Kd.R_below zb12_17 hb)
     replace HO605 := Aside0.mk (Kd.R_below zb18_17 hb)
     replace HO613 := Aside0.mk (Kd.R_below zb23_17 hb)
     replace HO621 := Aside0.mk (Kd.R_below zb29_17 hb)
     replace BK584 := bkb BK584 hb
     replace BK592 := bkb BK592 hb
     replace BK600 := bkb BK600 hb
     replace BK608 := bkb BK608 hb
     replace BK616 := bkb BK616 hb
     replace BK624 := bkb BK624 hb
     replace HB := Aside0.mk (below_step zb33_17 hb)
     (try clear hb)
     refine hK.out _ _ zk0_17 (fun hHeld => ?_)
     clear hK K
     refine zn (some 92) ?_
     refine zp 36 (some 93) zm37_17 HT_ ?_
     refine zp 37 (some 94) zm38_17 HT_ ?_
     refine zp 38 (some 95) zm39_17 HT_ ?_
     refine zu 39 (some 96) zm40_17 HT_ ?_
     refine zu 40 (some 97) zm63_17 HT_ ?_
     refine zu 41 (some 98) zm64_17 HT_ ?_
     refine zu 42 (some 99) zm65_17 HT_ ?_
     refine zu 43 (some 100) zm44_17 HT_ ?_
     refine zu 44 (some 101) zm45_17 HT_ ?_
     refine zu 45 (some 102) zm46_17 HT_ ?_
     refine zu 46 (some 103) zm47_17 HT_ ?_
     refine zp 47 (some 104) zm48_17 HT_ ?_
     refine zp 48 (some 105) zm49_17 HT_ ?_
     refine zu 49 (some 106) zm50_17 HT_ ?_
     refine zu 50 (some 107) zm60_17 HT_ ?_
     refine zu 51 (some 108) zm61_17 HT_ ?_
     refine zu 52 (some 109) zm62_17 HT_ ?_
     refine zu 53 (some 110) zm54_17 HT_ ?_
     refine zu 54 (some 111) zm55_17 HT_ ?_
     refine zu 55 (some 112) zm56_17 HT_ ?_
     refine zu 56 (some 113) zm57_17 HT_ ?_
     refine zu 57 (some 114) zm58_17 HT_ ?_
     refine zp 58 (some 115) zm59_17 HT_ ?_
     refine done_ (done_of HT_.out (by kernel_rfl)) ?_
     try go_wp2
     go_meet
     case rel => exact ⟨_, (true), zb0_17, H', ⟨by have := HJ2.out; omega⟩, ⟨by exact Kd.R_mono HO582.out (fun _ hk => ⟨hk.1.1.1.1.1, ⟨hk.1.1.1.1.2.1, ⟨hk.1.1.1.1.2.2.1, ⟨hk.1.1.1.1.2.2.2.1, hk.1.1.1.1.2.2.2.2⟩⟩⟩⟩)⟩, ⟨by exact Kd.R_mono HO589.out (fun _ hk => ⟨hk.1.1.1.1.1, ⟨hk.1.1.1.1.2.1, ⟨hk.1.1.1.1.2.2.1, ⟨hk.1.1.1.1.2.2.2.1, hk.1.1.1.1.2.2.2.2⟩⟩⟩⟩)⟩, ⟨by exact Kd.R_mono HO597.out (fun _ hk => ⟨hk.1.1.1.1.1, ⟨hk.1.1.1.1.2.1, ⟨hk.1.1.1.1.2.2.1, ⟨hk.1.1.1.1.2.2.2.1, hk.1.1.1.1.2.2.2.2⟩⟩⟩⟩)⟩, ⟨by exact Kd.R_mono HO605.out (fun _ hk => ⟨hk.1.1.1.1.1, ⟨hk.1.1.1.1.2.1, ⟨hk.1.1.1.1.2.2.1, ⟨hk.1.1.1.1.2.2.2.1, hk.1.1.1.1.2.2.2.2⟩⟩⟩⟩)⟩, ⟨by exact Kd.R_mono HO613.out (fun _ hk => ⟨hk.1.1.1.1.1, ⟨hk.1.1.1.1.2.1, ⟨hk.1.1.1.1.2.2.1, ⟨hk.1.1.1.1.2.2.2.1, hk.1.1.1.1.2.2.2.2⟩⟩⟩⟩)⟩, ⟨by exact Kd.R_mono HO621.out (fun _ hk => ⟨hk.1.1.1.1.1, ⟨hk.1.1.1.1.2.1, ⟨hk.1.1.1.1.2.2.1, ⟨hk.1.1.1.1.2.2.2.1, hk.1.1.1.1.2.2.2.2⟩⟩⟩⟩)⟩, ⟨by exact BK584.out⟩, ⟨by exact BK592.out⟩, ⟨by exact BK600.out⟩, ⟨by exact BK608.out⟩, ⟨by exact BK616.out⟩, ⟨by exact BK624.out⟩, ⟨by repeat ((with_reducible (exact HB.out)))⟩⟩
    subst c61
    rw [if_pos rfl] at H
    replace H := Option.bind_eq_some_iff.mp H
    obtain ⟨⟨t655, t656, t657, t660, t661⟩, A620, H⟩ := H
    (try dsimp -simprocs only at H)
    have A62 := Aside0.mk A620
    clear A620
    with_reducible refine (laws_lwDialback.calls kj2 t601 t602 _ _ t603 t647 t648 _ _ t649 true _ ?side1 ?side2 ?side3 ?side4 A60.out).mono ?_
    (case side1 => repeat ((exact (Kd.R_reads' HO605.out).2.2)))
    (case side2 => exact (Kd.R_reads' HO605.out).2.1)
    (case side3 => repeat ((exact (Kd.R_reads' HO651.out).2.2)))
    (case side4 => exact (Kd.R_reads' HO651.out).2.1)
    rintro e w75 ⟨rfl, hb⟩
    refine ⟨_, rfl, ?_⟩
    replace HO582 := Aside0.mk (Kd.R_below zb3_17 hb)
    replace HO589 := Aside0.mk (Kd.R_below zb7_17 hb)
    replace HO597 := Aside0.mk (Kd.R_below zb12_17 hb)
    replace HO605 := Aside0.mk (Kd.R_below zb18_17 hb)
    replace HO613 := Aside0.mk (Kd.R_below zb23_17 hb)
    replace HO621 := Aside0.mk (Kd.R_below zb29_17 hb)
    replace HO629 := Aside0.mk (Kd.R_below zb35_17 hb)
    replace HO636 := Aside0.mk (Kd.R_below zb36_17 hb)
    replace HO644 := Aside0.mk (Kd.R_below zb37_17 hb)
    replace HO651 := Aside0.mk (Kd.R_below zb38_17 hb)
    replace BK584 := bkb BK584 hb
    replace BK592 := bkb BK592 hb
    replace BK600 := bkb BK600 hb
    replace BK608 := bkb BK608 hb
    replace BK616 := bkb BK616 hb
    replace BK624 := bkb BK624 hb
    replace HB := Aside0.mk (below_step zb33_17 hb)
    (try clear hb)
    refine hK.out _ _ zk0_17 (fun hHeld => ?_)
    clear hK K
    refine zn (some 92) ?_
    refine zp 36 (some 93) zm37_17 HT_ ?_
    refine zp 37 (some 94) zm38_17 HT_ ?_
    refine zp 38 (some 95) zm39_17 HT_ ?_
    refine zp 39 (some 96) zm40_17 HT_ ?_
    refine zp 42 (some 99) zm41_17 HT_ ?_
    refine zp 43 (some 100) zm42_17 HT_ ?_
    refine zt 40 (some 97) zm43_17 HT_ HW_ hHeld ?_
    refine zt 41 (some 98) zm44_17 HT_ HW_ hHeld ?_
    refine one_ (i := 44) (N := some 101) zm45_17 rfl rfl (one_of HT_.out (by kernel_rfl)) (by decide) (fun K hK => ?_)
    refine goes_ Tryd.func13 (by kernel_rfl) rfl #[.agg #[.string t609, .int .i64 t610, .slice Ao42 t611.length co42], .int .i64 t614, .bool t615] (by rfl) rfl rfl zb1_17 ?_
    with_reducible refine (spec_DbVerified.calls kj2 t609 t610 _ _ t611 t614 t615 t655 t656 t657 t660 t661 _ ?side1 ?side2 A62.out).mono ?_
    (case side1 => repeat ((exact (Kd.R_reads' HO613.out).2.2)))
    (case side2 => exact (Kd.R_reads' HO613.out).2.1)
    rintro e w76 ⟨v658, rfl, ho0, hb⟩
    refine ⟨_, rfl, ?_⟩
    have HO659 := Aside0.mk (Kd.R_lower (Kd.R_new' (Kd.R_new' (Kd.R_new' (Kd.R_new' (Kd.R_new' (Kd.R_new' (Kd.R_new' (Kd.R_new' (Kd.R_new' (Kd.R_new' ho0 (Kd.R_lt zb3_17)) (Kd.R_lt zb7_17)) (Kd.R_lt zb12_17)) (Kd.R_lt zb18_17)) (Kd.R_lt zb23_17)) (Kd.R_lt zb29_17)) (Kd.R_lt zb35_17)) (Kd.R_lt zb36_17)) (Kd.R_lt zb37_17)) (Kd.R_lt zb38_17)) (below_size zb33_17))
    replace HO582 := Aside0.mk (Kd.R_elder' zb3_17 (Kd.R_base ho0) hb)
    replace HO589 := Aside0.mk (Kd.R_elder' zb7_17 (Kd.R_base ho0) hb)
    replace HO597 := Aside0.mk (Kd.R_elder' zb12_17 (Kd.R_base ho0) hb)
    replace HO605 := Aside0.mk (Kd.R_elder' zb18_17 (Kd.R_base ho0) hb)
    replace HO613 := Aside0.mk (Kd.R_elder' zb23_17 (Kd.R_base ho0) hb)
    replace HO621 := Aside0.mk (Kd.R_elder' zb29_17 (Kd.R_base ho0) hb)
    replace HO629 := Aside0.mk (Kd.R_elder' zb35_17 (Kd.R_base ho0) hb)
    replace HO636 := Aside0.mk (Kd.R_elder' zb36_17 (Kd.R_base ho0) hb)
    replace HO644 := Aside0.mk (Kd.R_elder' zb37_17 (Kd.R_base ho0) hb)
    replace HO651 := Aside0.mk (Kd.R_elder' zb38_17 (Kd.R_base ho0) hb)
    replace BK584 := bkb BK584 hb
    replace BK592 := bkb BK592 hb
    replace BK600 := bkb BK600 hb
    replace BK608 := bkb BK608 hb
    replace BK616 := bkb BK616 hb
    replace BK624 := bkb BK624 hb
    replace HB := Aside0.mk (below_step zb33_17 hb)
    (try clear hb)
    (try clear ho0)
    refine hK.out _ _ zk0_17 (fun hHeld => ?_)
    clear hK K
    refine zn (some 101) ?_
    refine zp 45 (some 102) zm46_17 HT_ ?_
    refine zp 46 (some 103) zm47_17 HT_ ?_
    refine zp 47 (some 104) zm48_17 HT_ ?_
    refine zp 48 (some 105) zm49_17 HT_ ?_
    by_cases c63 : t623 = t661
    rotate_left
    ·
     rw [if_neg c63] at H
     have c63b0 : (t623 == t661) = false := beq_eq_false_iff_ne.mpr c63
     have c63b1 : (t623 != t661) = true := bne_iff_ne.mpr c63
     have H' := Aside0.mk H
     clear H
     (try rw [c63b1])
     refine zu 49 (some 106) zm50_17 HT_ ?_
     refine zu 50 (some 107) zm60_17 HT_ ?_
     refine zu 51 (some 108) zm61_17 HT_ ?_
     refine zu 52 (some 109) zm62_17 HT_ ?_
     refine zu 53 (some 110) zm54_17 HT_ ?_
     refine zu 54 (some 111) zm55_17 HT_ ?_
     refine zu 55 (some 112) zm56_17 HT_ ?_
     refine zu 56 (some 113) zm57_17 HT_ ?_
     refine zu 57 (some 114) zm58_17 HT_ ?_
     refine zp 58 (some 115) zm59_17 HT_ ?_
     refine done_ (done_of HT_.out (by kernel_rfl)) ?_
     try go_wp2
     go_meet
     case rel => exact ⟨_, (true), zb0_17, H', ⟨by have := HJ2.out; omega⟩, ⟨by exact Kd.R_mono HO582.out (fun _ hk => ⟨hk.1.1.1.1.1.1, ⟨hk.1.1.1.1.1.2.1, ⟨hk.1.1.1.1.1.2.2.1, ⟨hk.1.1.1.1.1.2.2.2.1, hk.1.1.1.1.1.2.2.2.2⟩⟩⟩⟩)⟩, ⟨by exact Kd.R_mono HO589.out (fun _ hk => ⟨hk.1.1.1.1.1.1, ⟨hk.1.1.1.1.1.2.1, ⟨hk.1.1.1.1.1.2.2.1, ⟨hk.1.1.1.1.1.2.2.2.1, hk.1.1.1.1.1.2.2.2.2⟩⟩⟩⟩)⟩, ⟨by exact Kd.R_mono HO597.out (fun _ hk => ⟨hk.1.1.1.1.1.1, ⟨hk.1.1.1.1.1.2.1, ⟨hk.1.1.1.1.1.2.2.1, ⟨hk.1.1.1.1.1.2.2.2.1, hk.1.1.1.1.1.2.2.2.2⟩⟩⟩⟩)⟩, ⟨by exact Kd.R_mono HO605.out (fun _ hk => ⟨hk.1.1.1.1.1.1, ⟨hk.1.1.1.1.1.2.1, ⟨hk.1.1.1.1.1.2.2.1, ⟨hk.1.1.1.1.1.2.2.2.1, hk.1.1.1.1.1.2.2.2.2⟩⟩⟩⟩)⟩, ⟨by exact Kd.R_mono HO613.out (fun _ hk => ⟨hk.1.1.1.1.1.1, ⟨hk.1.1.1.1.1.2.1, ⟨hk.1.1.1.1.1.2.2.1, ⟨hk.1.1.1.1.1.2.2.2.1, hk.1.1.1.1.1.2.2.2.2⟩⟩⟩⟩)⟩, ⟨by exact Kd.R_mono HO621.out (fun _ hk => ⟨hk.1.1.1.1.1.1, ⟨hk.1.1.1.1.1.2.1, ⟨hk.1.1.1.1.1.2.2.1, ⟨hk.1.1.1.1.1.2.2.2.1, hk.1.1.1.1.1.2.2.2.2⟩⟩⟩⟩)⟩, ⟨by exact BK584.out⟩, ⟨by exact BK592.out⟩, ⟨by exact BK600.out⟩, ⟨by exact BK608.out⟩, ⟨by exact BK616.out⟩, ⟨by exact BK624.out⟩, ⟨by repeat ((with_reducible (exact HB.out)))⟩⟩
    rw [if_pos c63] at H
    have c63b0 : (t623 == t661) = true := beq_iff_eq.mpr c63
    have c63b1 : (t623 != t661) = false := bne_eq_false_iff_eq.mpr c63
    clear c63
    replace H := Option.bind_eq_some_iff.mp H
    obtain ⟨⟨t662, t663, t664, t667, t668⟩, A640, H⟩ := H
    (try dsimp -simprocs only at H)
    have A64 := Aside0.mk A640
    clear A640
    replace H := Option.bind_eq_some_iff.mp H
    obtain ⟨t669, A650, H⟩ := H
    (try dsimp -simprocs only at H)
    have A65 := Aside0.mk A650
    clear A650
    have H' := Aside0.mk H
    clear H
    (try rw [c63b1])
    refine zp 49 (some 106) zm50_17 HT_ ?_
    refine zp 52 (some 109) zm51_17 HT_ ?_
    refine zp 53 (some 110) zm52_17 HT_ ?_
    refine zt 50 (some 107) zm53_17 HT_ HW_ hHeld ?_
    refine zt 51 (some 108) zm54_17 HT_ HW_ hHeld ?_
    refine one_ (i := 54) (N := some 111) zm55_17 rfl rfl (one_of HT_.out (by kernel_rfl)) (by decide) (fun K hK => ?_)
    refine goes_ Tryd.func13 (by kernel_rfl) rfl #[.agg #[.string t609, .int .i64 t610, .slice Ao42 t611.length co42], .int .i64 t614, .bool t615] (by rfl) rfl rfl zb1_17 ?_
    with_reducible refine (spec_DbVerified.calls kj2 t609 t610 _ _ t611 t614 t615 t662 t663 t664 t667 t668 _ ?side1 ?side2 A64.out).mono ?_
    (case side1 => repeat ((exact (Kd.R_reads' HO613.out).2.2)))
    (case side2 => exact (Kd.R_reads' HO613.out).2.1)
    rintro e w77 ⟨v665, rfl, ho0, hb⟩
    refine ⟨_, rfl, ?_⟩
    have HO666 := Aside0.mk (Kd.R_lower (Kd.R_new' (Kd.R_new' (Kd.R_new' (Kd.R_new' (Kd.R_new' (Kd.R_new' (Kd.R_new' (Kd.R_new' (Kd.R_new' (Kd.R_new' (Kd.R_new' ho0 (Kd.R_lt zb3_17)) (Kd.R_lt zb7_17)) (Kd.R_lt zb12_17)) (Kd.R_lt zb18_17)) (Kd.R_lt zb23_17)) (Kd.R_lt zb29_17)) (Kd.R_lt zb35_17)) (Kd.R_lt zb36_17)) (Kd.R_lt zb37_17)) (Kd.R_lt zb38_17)) (Kd.R_lt zb39_17)) (below_size zb33_17))
    replace HO582 := Aside0.mk (Kd.R_elder' zb3_17 (Kd.R_base ho0) hb)
    replace HO589 := Aside0.mk (Kd.R_elder' zb7_17 (Kd.R_base ho0) hb)
    replace HO597 := Aside0.mk (Kd.R_elder' zb12_17 (Kd.R_base ho0) hb)
    replace HO605 := Aside0.mk (Kd.R_elder' zb18_17 (Kd.R_base ho0) hb)
    replace HO613 := Aside0.mk (Kd.R_elder' zb23_17 (Kd.R_base ho0) hb)
    replace HO621 := Aside0.mk (Kd.R_elder' zb29_17 (Kd.R_base ho0) hb)
    replace BK584 := bkb BK584 hb
    replace BK592 := bkb BK592 hb
    replace BK600 := bkb BK600 hb
    replace BK608 := bkb BK608 hb
    replace BK616 := bkb BK616 hb
    replace BK624 := bkb BK624 hb
    replace HB := Aside0.mk (below_step zb33_17 hb)
    (try clear hb)
    (try clear ho0)
    obtain ⟨Ao78, co78, eo78⟩ := Kd.R_slice HO666.out
    ((subst eo78))
    refine hK.out _ _ zk0_17 (fun hHeld => ?_)
    clear hK K
    refine zn (some 111) ?_
    refine zp 55 (some 112) zm56_17 HT_ ?_
    refine one_ (i := 56) (N := some 113) zm57_17 rfl rfl (one_of HT_.out (by kernel_rfl)) (by decide) (fun K hK => ?_)
    refine goes_ Tryd.func11 (by kernel_rfl) rfl #[.agg #[.string t617, .int .i64 t618, .slice Ao51 t619.length co51], .agg #[.string t662, .int .i64 t663, .slice Ao78 t664.length co78]] (by rfl) rfl rfl zb1_17 ?_
    with_reducible refine (laws_lwDialback.calls kj2 t617 t618 _ _ t619 t662 t663 _ _ t664 t669 _ ?side1 ?side2 ?side3 ?side4 A65.out).mono ?_
    (case side1 => repeat ((exact (Kd.R_reads' HO621.out).2.2)))
    (case side2 => exact (Kd.R_reads' HO621.out).2.1)
    (case side3 => repeat ((exact (Kd.R_reads' HO666.out).2.2)))
    (case side4 => exact (Kd.R_reads' HO666.out).2.1)
    rintro e w79 ⟨rfl, hb⟩
    refine ⟨_, rfl, ?_⟩
    replace HO582 := Aside0.mk (Kd.R_below zb3_17 hb)
    replace HO589 := Aside0.mk (Kd.R_below zb7_17 hb)
    replace HO597 := Aside0.mk (Kd.R_below zb12_17 hb)
    replace HO605 := Aside0.mk (Kd.R_below zb18_17 hb)
    replace HO613 := Aside0.mk (Kd.R_below zb23_17 hb)
    replace HO621 := Aside0.mk (Kd.R_below zb29_17 hb)
    replace BK584 := bkb BK584 hb
    replace BK592 := bkb BK592 hb
    replace BK600 := bkb BK600 hb
    replace BK608 := bkb BK608 hb
    replace BK616 := bkb BK616 hb
    replace BK624 := bkb BK624 hb
    replace HB := Aside0.mk (below_step zb33_17 hb)
    (try clear hb)
    refine hK.out _ _ zk0_17 (fun hHeld => ?_)
    clear hK K
    refine zn (some 113) ?_
    refine zp 57 (some 114) zm58_17 HT_ ?_
    refine zp 58 (some 115) zm59_17 HT_ ?_
    refine done_ (done_of HT_.out (by kernel_rfl)) ?_
    try go_wp2
    go_meet
    case rel => exact ⟨_, (!t669), zb0_17, H', ⟨by have := HJ2.out; omega⟩, ⟨by exact Kd.R_mono HO582.out (fun _ hk => ⟨hk.1.1.1.1.1.1.1, ⟨hk.1.1.1.1.1.1.2.1, ⟨hk.1.1.1.1.1.1.2.2.1, ⟨hk.1.1.1.1.1.1.2.2.2.1, hk.1.1.1.1.1.1.2.2.2.2⟩⟩⟩⟩)⟩, ⟨by exact Kd.R_mono HO589.out (fun _ hk => ⟨hk.1.1.1.1.1.1.1, ⟨hk.1.1.1.1.1.1.2.1, ⟨hk.1.1.1.1.1.1.2.2.1, ⟨hk.1.1.1.1.1.1.2.2.2.1, hk.1.1.1.1.1.1.2.2.2.2⟩⟩⟩⟩)⟩, ⟨by exact Kd.R_mono HO597.out (fun _ hk => ⟨hk.1.1.1.1.1.1.1, ⟨hk.1.1.1.1.1.1.2.1, ⟨hk.1.1.1.1.1.1.2.2.1, ⟨hk.1.1.1.1.1.1.2.2.2.1, hk.1.1.1.1.1.1.2.2.2.2⟩⟩⟩⟩)⟩, ⟨by exact Kd.R_mono HO605.out (fun _ hk => ⟨hk.1.1.1.1.1.1.1, ⟨hk.1.1.1.1.1.1.2.1, ⟨hk.1.1.1.1.1.1.2.2.1, ⟨hk.1.1.1.1.1.1.2.2.2.1, hk.1.1.1.1.1.1.2.2.2.2⟩⟩⟩⟩)⟩, ⟨by exact Kd.R_mono HO613.out (fun _ hk => ⟨hk.1.1.1.1.1.1.1, ⟨hk.1.1.1.1.1.1.2.1, ⟨hk.1.1.1.1.1.1.2.2.1, ⟨hk.1.1.1.1.1.1.2.2.2.1, hk.1.1.1.1.1.1.2.2.2.2⟩⟩⟩⟩)⟩, ⟨by exact Kd.R_mono HO621.out (fun _ hk => ⟨hk.1.1.1.1.1.1.1, ⟨hk.1.1.1.1.1.1.2.1, ⟨hk.1.1.1.1.1.1.2.2.1, ⟨hk.1.1.1.1.1.1.2.2.2.1, hk.1.1.1.1.1.1.2.2.2.2⟩⟩⟩⟩)⟩, ⟨by exact BK584.out⟩, ⟨by exact BK592.out⟩, ⟨by exact BK600.out⟩, ⟨by exact BK608.out⟩, ⟨by exact BK616.out⟩, ⟨by exact BK624.out⟩, ⟨by repeat ((with_reducible (exact HB.out)))⟩⟩
   case rest => as_aux_lemma =>
    clear HC12
    obtain ⟨kq, x115_11, rfl, HA, HJ11, HO_585002, HO_593002, HO_601002, HO_609002, HO_617002, HO_625002, BK584, BK592, BK600, BK608, BK616, BK624, HB⟩ := hcut
    cases kq with
    | zero => exact absurd HA.out (by simp [laws_FnDialback.j1])
    | succ kj11 =>
     have H := HA.out
     clear HA
     simp only [laws_FnDialback.j1] at H
     by_cases c117 : x115_11 = true
     · subst c117; rw [if_pos rfl] at H; exact absurd ((Option.some.inj H).trans hrt.out) (by decide)
     replace c117 := Bool.eq_false_iff.mpr c117
     subst c117
     rw [if_neg (show ¬ (false = true) by decide)] at H
     have HC118 := Aside0.mk H
     clear H
     go_upto_region 11 with (fail)
     go_cut [139] (fun v139 wc => ∃ (kq : Nat) (x139_117 : Bool), v139 = .bool x139_117 ∧ Aside0 (laws_FnDialback.j2 kq l0 t598 t599 t614 t615 x139_117 t601 t602 t603 t606 t607 t617 t618 t619 t622 t623 = some r) ∧ Aside0 (kq ≤ kj11) ∧ Aside0 (Kd.R k43 43 wc w.heap.size (fun k_ => some k_ ≠ ((.slice Ao21 t587.length co21) : Value).ownBlock ∧ some k_ ≠ ((.slice Ao27 t595.length co27) : Value).ownBlock ∧ some k_ ≠ ((.slice Ao34 t603.length co34) : Value).ownBlock ∧ some k_ ≠ ((.slice Ao42 t611.length co42) : Value).ownBlock ∧ some k_ ≠ ((.slice Ao51 t619.length co51) : Value).ownBlock) (.slice Ao16 t580.length co16) t580) ∧ Aside0 (Kd.R k43 43 wc w.heap.size (fun k_ => some k_ ≠ ((.slice Ao16 t580.length co16) : Value).ownBlock ∧ some k_ ≠ ((.slice Ao27 t595.length co27) : Value).ownBlock ∧ some k_ ≠ ((.slice Ao34 t603.length co34) : Value).ownBlock ∧ some k_ ≠ ((.slice Ao42 t611.length co42) : Value).ownBlock ∧ some k_ ≠ ((.slice Ao51 t619.length co51) : Value).ownBlock) (.slice Ao21 t587.length co21) t587) ∧ Aside0 (Kd.R k43 43 wc w.heap.size (fun k_ => some k_ ≠ ((.slice Ao16 t580.length co16) : Value).ownBlock ∧ some k_ ≠ ((.slice Ao21 t587.length co21) : Value).ownBlock ∧ some k_ ≠ ((.slice Ao34 t603.length co34) : Value).ownBlock ∧ some k_ ≠ ((.slice Ao42 t611.length co42) : Value).ownBlock ∧ some k_ ≠ ((.slice Ao51 t619.length co51) : Value).ownBlock) (.slice Ao27 t595.length co27) t595) ∧ Aside0 (Kd.R k43 43 wc w.heap.size (fun k_ => some k_ ≠ ((.slice Ao16 t580.length co16) : Value).ownBlock ∧ some k_ ≠ ((.slice Ao21 t587.length co21) : Value).ownBlock ∧ some k_ ≠ ((.slice Ao27 t595.length co27) : Value).ownBlock ∧ some k_ ≠ ((.slice Ao42 t611.length co42) : Value).ownBlock ∧ some k_ ≠ ((.slice Ao51 t619.length co51) : Value).ownBlock) (.slice Ao34 t603.length co34) t603) ∧ Aside0 (Kd.R k43 43 wc w.heap.size (fun k_ => some k_ ≠ ((.slice Ao16 t580.length co16) : Value).ownBlock ∧ some k_ ≠ ((.slice Ao21 t587.length co21) : Value).ownBlock ∧ some k_ ≠ ((.slice Ao27 t595.length co27) : Value).ownBlock ∧ some k_ ≠ ((.slice Ao34 t603.length co34) : Value).ownBlock ∧ some k_ ≠ ((.slice Ao51 t619.length co51) : Value).ownBlock) (.slice Ao42 t611.length co42) t611) ∧ Aside0 (Kd.R k43 43 wc w.heap.size (fun k_ => some k_ ≠ ((.slice Ao16 t580.length co16) : Value).ownBlock ∧ some k_ ≠ ((.slice Ao21 t587.length co21) : Value).ownBlock ∧ some k_ ≠ ((.slice Ao27 t595.length co27) : Value).ownBlock ∧ some k_ ≠ ((.slice Ao34 t603.length co34) : Value).ownBlock ∧ some k_ ≠ ((.slice Ao42 t611.length co42) : Value).ownBlock) (.slice Ao51 t619.length co51) t619) ∧ Aside0 (wc.heap[gb584]? = some (.cells #[.string t578, .int .i64 t579, (.slice Ao16 t580.length co16)] 25 (0, 0))) ∧ Aside0 (wc.heap[gb592]? = some (.cells #[.string t585, .int .i64 t586, (.slice Ao21 t587.length co21), .int .i64 t590, .int .i64 t591] 29 (0, 0))) ∧ Aside0 (wc.heap[gb600]? = some (.cells #[.string t593, .int .i64 t594, (.slice Ao27 t595.length co27)] 25 (0, 0))) ∧ Aside0 (wc.heap[gb608]? = some (.cells #[.string t601, .int .i64 t602, (.slice Ao34 t603.length co34), .int .i64 t606, .int .i64 t607] 29 (0, 0))) ∧ Aside0 (wc.heap[gb616]? = some (.cells #[.string t609, .int .i64 t610, (.slice Ao42 t611.length co42)] 25 (0, 0))) ∧ Aside0 (wc.heap[gb624]? = some (.cells #[.string t617, .int .i64 t618, (.slice Ao51 t619.length co51), .int .i64 t622, .int .i64 t623] 29 (0, 0))) ∧ Aside0 (Below w.heap.size w wc))
     case first => as_aux_lemma =>
      have H := HC118.out
      clear HC118
      have hnb123 := NB592_584.out
      have hnc123 := NB584_592.out
      have hnb124 := NB592_600.out
      have hnc124 := NB600_592.out
      have hnb125 := NB592_608.out
      have hnc125 := NB608_592.out
      have hnb126 := NB592_616.out
      have hnc126 := NB616_592.out
      have hnb127 := NB592_624.out
      have hnc127 := NB624_592.out
      obtain ⟨z0, z1, z2, z3, z4, z5, z6, z7, z8, z9⟩ := bz5 BK592.out
      by_cases c119 : t591 = 0
      rotate_left
      ·
       rw [if_neg c119] at H
       have c119b0 : (t591 == 0) = false := beq_eq_false_iff_ne.mpr c119
       have c119b1 : (t591 != 0) = true := bne_iff_ne.mpr c119
       have H' := Aside0.mk H
       clear H
       go_wp2
       go_meet
       case rel => exact ⟨_, (false), zb0_17, H', ⟨by have := HJ2.out; have := HJ11.out; omega⟩, ⟨by exact HO_585002.out⟩, ⟨by exact HO_593002.out⟩, ⟨by exact HO_601002.out⟩, ⟨by exact HO_609002.out⟩, ⟨by exact HO_617002.out⟩, ⟨by exact HO_625002.out⟩, ⟨by exact BK584.out⟩, ⟨by exact BK592.out⟩, ⟨by exact BK600.out⟩, ⟨by exact BK608.out⟩, ⟨by exact BK616.out⟩, ⟨by exact BK624.out⟩, ⟨by repeat ((with_reducible (exact HB.out)))⟩⟩
      rw [if_pos c119] at H
      have c119b0 : (t591 == 0) = true := beq_iff_eq.mpr c119
      have c119b1 : (t591 != 0) = false := bne_eq_false_iff_eq.mpr c119
      clear c119
      have hnb129 := NB584_600.out
      have hnc129 := NB600_584.out
      have hnb130 := NB584_608.out
      have hnc130 := NB608_584.out
      have hnb131 := NB584_616.out
      have hnc131 := NB616_584.out
      have hnb132 := NB584_624.out
      have hnc132 := NB624_584.out
      obtain ⟨z0, z1, z2, z3, z4, z5⟩ := bz3 BK584.out
      by_cases c120 : t590 = t579
      rotate_left
      ·
       rw [if_neg c120] at H
       have c120b0 : (t590 == t579) = false := beq_eq_false_iff_ne.mpr c120
       have c120b1 : (t590 != t579) = true := bne_iff_ne.mpr c120
       have H' := Aside0.mk H
       clear H
       go_wp2
       go_meet
       case rel => exact ⟨_, (true), zb0_17, H', ⟨by have := HJ2.out; have := HJ11.out; omega⟩, ⟨by exact HO_585002.out⟩, ⟨by exact HO_593002.out⟩, ⟨by exact HO_601002.out⟩, ⟨by exact HO_609002.out⟩, ⟨by exact HO_617002.out⟩, ⟨by exact HO_625002.out⟩, ⟨by exact BK584.out⟩, ⟨by exact BK592.out⟩, ⟨by exact BK600.out⟩, ⟨by exact BK608.out⟩, ⟨by exact BK616.out⟩, ⟨by exact BK624.out⟩, ⟨by repeat ((with_reducible (exact HB.out)))⟩⟩
      rw [if_pos c120] at H
      have c120b0 : (t590 == t579) = true := beq_iff_eq.mpr c120
      have c120b1 : (t590 != t579) = false := bne_eq_false_iff_eq.mpr c120
      clear c120
      replace H := Option.bind_eq_some_iff.mp H
      obtain ⟨t670, A1210, H⟩ := H
      (try dsimp -simprocs only at H)
      have A121 := Aside0.mk A1210
      clear A1210
      by_cases c122 : t670 = true
      ·
       subst c122
       rw [if_pos rfl] at H
       have H' := Aside0.mk H
       clear H
       go_wp2_with ((go_at_call 14; (with_reducible refine (impl_DbTrusts.calls kj11 t585 t586 _ _ t587 t583 t590 true _ ?side1 ?side2 A121.out zb4_17).mono ?_); (case side1 => repeat ((exact (Kd.R_reads' HO_593002.out).2.2))); (case side2 => exact (Kd.R_reads' HO_593002.out).2.1); rintro e w134 ⟨rfl, hb⟩; replace HO_585002 := Aside0.mk (Kd.R_below zb40_17 hb); replace HO_593002 := Aside0.mk (Kd.R_below zb41_17 hb); replace HO_601002 := Aside0.mk (Kd.R_below zb42_17 hb); replace HO_609002 := Aside0.mk (Kd.R_below zb43_17 hb); replace HO_617002 := Aside0.mk (Kd.R_below zb44_17 hb); replace HO_625002 := Aside0.mk (Kd.R_below zb45_17 hb); replace BK584 := bkb BK584 hb; replace BK592 := bkb BK592 hb; replace BK600 := bkb BK600 hb; replace BK608 := bkb BK608 hb; replace BK616 := bkb BK616 hb; replace BK624 := bkb BK624 hb; replace HB := Aside0.mk (below_step zb33_17 hb); (try clear hb)))
       go_meet
       case rel => exact ⟨_, (true), zb0_17, H', ⟨by have := HJ2.out; have := HJ11.out; omega⟩, ⟨by exact HO_585002.out⟩, ⟨by exact HO_593002.out⟩, ⟨by exact HO_601002.out⟩, ⟨by exact HO_609002.out⟩, ⟨by exact HO_617002.out⟩, ⟨by exact HO_625002.out⟩, ⟨by exact BK584.out⟩, ⟨by exact BK592.out⟩, ⟨by exact BK600.out⟩, ⟨by exact BK608.out⟩, ⟨by exact BK616.out⟩, ⟨by exact BK624.out⟩, ⟨by repeat ((with_reducible (exact HB.out)))⟩⟩
      replace c122 := Bool.eq_false_iff.mpr c122
      subst c122
      rw [if_neg (show ¬ (false = true) by decide)] at H
      replace H := Option.bind_eq_some_iff.mp H
      obtain ⟨t671, A1350, H⟩ := H
      (try dsimp -simprocs only at H)
      have A135 := Aside0.mk A1350
      clear A1350
      have H' := Aside0.mk H
      clear H
      go_wp2_with (first | (go_at_call 14; (with_reducible refine (impl_DbTrusts.calls kj11 t585 t586 _ _ t587 t583 t590 false _ ?side1 ?side2 A121.out zb4_17).mono ?_); (case side1 => repeat ((exact (Kd.R_reads' HO_593002.out).2.2))); (case side2 => exact (Kd.R_reads' HO_593002.out).2.1); rintro e w147 ⟨rfl, hb⟩; replace HO_585002 := Aside0.mk (Kd.R_below zb40_17 hb); replace HO_593002 := Aside0.mk (Kd.R_below zb41_17 hb); replace HO_601002 := Aside0.mk (Kd.R_below zb42_17 hb); replace HO_609002 := Aside0.mk (Kd.R_below zb43_17 hb); replace HO_617002 := Aside0.mk (Kd.R_below zb44_17 hb); replace HO_625002 := Aside0.mk (Kd.R_below zb45_17 hb); replace BK584 := bkb BK584 hb; replace BK592 := bkb BK592 hb; replace BK600 := bkb BK600 hb; replace BK608 := bkb BK608 hb; replace BK616 := bkb BK616 hb; replace BK624 := bkb BK624 hb; replace HB := Aside0.mk (below_step zb33_17 hb); (try clear hb); obtain ⟨z0, z1, z2, z3, z4, z5, z6, z7, z8, z9⟩ := bz5 BK592.out) | (go_at_call 15; (with_reducible refine (spec_DialbackRight.calls kj11 t585 t586 _ _ t587 t671 _ ?side1 ?side2 A135.out).mono ?_); (case side1 => repeat ((exact (Kd.R_reads' HO_593002.out).2.2))); (case side2 => exact (Kd.R_reads' HO_593002.out).2.1); rintro e w149 ⟨rfl, hb⟩; replace HO_585002 := Aside0.mk (Kd.R_below zb40_17 hb); replace HO_593002 := Aside0.mk (Kd.R_below zb41_17 hb); replace HO_601002 := Aside0.mk (Kd.R_below zb42_17 hb); replace HO_609002 := Aside0.mk (Kd.R_below zb43_17 hb); replace HO_617002 := Aside0.mk (Kd.R_below zb44_17 hb); replace HO_625002 := Aside0.mk (Kd.R_below zb45_17 hb); replace BK584 := bkb BK584 hb; replace BK592 := bkb BK592 hb; replace BK600 := bkb BK600 hb; replace BK608 := bkb BK608 hb; replace BK616 := bkb BK616 hb; replace BK624 := bkb BK624 hb; replace HB := Aside0.mk (below_step zb33_17 hb); (try clear hb)))
      go_meet
      case rel => exact ⟨_, (!t671), zb0_17, H', ⟨by have := HJ2.out; have := HJ11.out; omega⟩, ⟨by exact HO_585002.out⟩, ⟨by exact HO_593002.out⟩, ⟨by exact HO_601002.out⟩, ⟨by exact HO_609002.out⟩, ⟨by exact HO_617002.out⟩, ⟨by exact HO_625002.out⟩, ⟨by exact BK584.out⟩, ⟨by exact BK592.out⟩, ⟨by exact BK600.out⟩, ⟨by exact BK608.out⟩, ⟨by exact BK616.out⟩, ⟨by exact BK624.out⟩, ⟨by repeat ((with_reducible (exact HB.out)))⟩⟩
     case rest => as_aux_lemma =>
      clear HC118
      obtain ⟨kq, x139_117, rfl, HA, HJ117, HO_585002, HO_593002, HO_601002, HO_609002, HO_617002, HO_625002, BK584, BK592, BK600, BK608, BK616, BK624, HB⟩ := hcut
      cases kq with
      | zero => exact absurd HA.out (by simp [laws_FnDialback.j2])
      | succ kj117 =>
       have H := HA.out
       clear HA
       simp only [laws_FnDialback.j2] at H
       by_cases c167 : x139_117 = true
       · subst c167; rw [if_pos rfl] at H; exact absurd ((Option.some.inj H).trans hrt.out) (by decide)
       replace c167 := Bool.eq_false_iff.mpr c167
       subst c167
       rw [if_neg (show ¬ (false = true) by decide)] at H
       have HC168 := Aside0.mk H
       clear H
       go_upto_region 13 with (fail)
       go_cut [157] (fun v157 wc => ∃ (kq : Nat) (x157_167 : Bool), v157 = .bool x157_167 ∧ Aside0 (laws_FnDialback.j3 kq l0 t614 t615 x157_167 t617 t618 t619 t622 t623 = some r) ∧ Aside0 (kq ≤ kj117) ∧ Aside0 (Kd.R k43 43 wc w.heap.size (fun k_ => some k_ ≠ ((.slice Ao21 t587.length co21) : Value).ownBlock ∧ some k_ ≠ ((.slice Ao27 t595.length co27) : Value).ownBlock ∧ some k_ ≠ ((.slice Ao34 t603.length co34) : Value).ownBlock ∧ some k_ ≠ ((.slice Ao42 t611.length co42) : Value).ownBlock ∧ some k_ ≠ ((.slice Ao51 t619.length co51) : Value).ownBlock) (.slice Ao16 t580.length co16) t580) ∧ Aside0 (Kd.R k43 43 wc w.heap.size (fun k_ => some k_ ≠ ((.slice Ao16 t580.length co16) : Value).ownBlock ∧ some k_ ≠ ((.slice Ao27 t595.length co27) : Value).ownBlock ∧ some k_ ≠ ((.slice Ao34 t603.length co34) : Value).ownBlock ∧ some k_ ≠ ((.slice Ao42 t611.length co42) : Value).ownBlock ∧ some k_ ≠ ((.slice Ao51 t619.length co51) : Value).ownBlock) (.slice Ao21 t587.length co21) t587) ∧ Aside0 (Kd.R k43 43 wc w.heap.size (fun k_ => some k_ ≠ ((.slice Ao16 t580.length co16) : Value).ownBlock ∧ some k_ ≠ ((.slice Ao21 t587.length co21) : Value).ownBlock ∧ some k_ ≠ ((.slice Ao34 t603.length co34) : Value).ownBlock ∧ some k_ ≠ ((.slice Ao42 t611.length co42) : Value).ownBlock ∧ some k_ ≠ ((.slice Ao51 t619.length co51) : Value).ownBlock) (.slice Ao27 t595.length co27) t595) ∧ Aside0 (Kd.R k43 43 wc w.heap.size (fun k_ => some k_ ≠ ((.slice Ao16 t580.length co16) : Value).ownBlock ∧ some k_ ≠ ((.slice Ao21 t587.length co21) : Value).ownBlock ∧ some k_ ≠ ((.slice Ao27 t595.length co27) : Value).ownBlock ∧ some k_ ≠ ((.slice Ao42 t611.length co42) : Value).ownBlock ∧ some k_ ≠ ((.slice Ao51 t619.length co51) : Value).ownBlock) (.slice Ao34 t603.length co34) t603) ∧ Aside0 (Kd.R k43 43 wc w.heap.size (fun k_ => some k_ ≠ ((.slice Ao16 t580.length co16) : Value).ownBlock ∧ some k_ ≠ ((.slice Ao21 t587.length co21) : Value).ownBlock ∧ some k_ ≠ ((.slice Ao27 t595.length co27) : Value).ownBlock ∧ some k_ ≠ ((.slice Ao34 t603.length co34) : Value).ownBlock ∧ some k_ ≠ ((.slice Ao51 t619.length co51) : Value).ownBlock) (.slice Ao42 t611.length co42) t611) ∧ Aside0 (Kd.R k43 43 wc w.heap.size (fun k_ => some k_ ≠ ((.slice Ao16 t580.length co16) : Value).ownBlock ∧ some k_ ≠ ((.slice Ao21 t587.length co21) : Value).ownBlock ∧ some k_ ≠ ((.slice Ao27 t595.length co27) : Value).ownBlock ∧ some k_ ≠ ((.slice Ao34 t603.length co34) : Value).ownBlock ∧ some k_ ≠ ((.slice Ao42 t611.length co42) : Value).ownBlock) (.slice Ao51 t619.length co51) t619) ∧ Aside0 (wc.heap[gb584]? = some (.cells #[.string t578, .int .i64 t579, (.slice Ao16 t580.length co16)] 25 (0, 0))) ∧ Aside0 (wc.heap[gb592]? = some (.cells #[.string t585, .int .i64 t586, (.slice Ao21 t587.length co21), .int .i64 t590, .int .i64 t591] 29 (0, 0))) ∧ Aside0 (wc.heap[gb600]? = some (.cells #[.string t593, .int .i64 t594, (.slice Ao27 t595.length co27)] 25 (0, 0))) ∧ Aside0 (wc.heap[gb608]? = some (.cells #[.string t601, .int .i64 t602, (.slice Ao34 t603.length co34), .int .i64 t606, .int .i64 t607] 29 (0, 0))) ∧ Aside0 (wc.heap[gb616]? = some (.cells #[.string t609, .int .i64 t610, (.slice Ao42 t611.length co42)] 25 (0, 0))) ∧ Aside0 (wc.heap[gb624]? = some (.cells #[.string t617, .int .i64 t618, (.slice Ao51 t619.length co51), .int .i64 t622, .int .i64 t623] 29 (0, 0))) ∧ Aside0 (Below w.heap.size w wc))
       case first => as_aux_lemma =>
        have H := HC168.out
        clear HC168
        have hnb173 := NB608_584.out
        have hnc173 := NB584_608.out
        have hnb174 := NB608_592.out
        have hnc174 := NB592_608.out
        have hnb175 := NB608_600.out
        have hnc175 := NB600_608.out
        have hnb176 := NB608_616.out
        have hnc176 := NB616_608.out
        have hnb177 := NB608_624.out
        have hnc177 := NB624_608.out
        obtain ⟨z0, z1, z2, z3, z4, z5, z6, z7, z8, z9⟩ := bz5 BK608.out
        by_cases c169 : t607 = 0
        rotate_left
        ·
         rw [if_neg c169] at H
         have c169b0 : (t607 == 0) = false := beq_eq_false_iff_ne.mpr c169
         have c169b1 : (t607 != 0) = true := bne_iff_ne.mpr c169
         have H' := Aside0.mk H
         clear H
         go_wp2
         go_meet
         case rel => exact ⟨_, (false), zb0_17, H', ⟨by have := HJ2.out; have := HJ11.out; have := HJ117.out; omega⟩, ⟨by exact HO_585002.out⟩, ⟨by exact HO_593002.out⟩, ⟨by exact HO_601002.out⟩, ⟨by exact HO_609002.out⟩, ⟨by exact HO_617002.out⟩, ⟨by exact HO_625002.out⟩, ⟨by exact BK584.out⟩, ⟨by exact BK592.out⟩, ⟨by exact BK600.out⟩, ⟨by exact BK608.out⟩, ⟨by exact BK616.out⟩, ⟨by exact BK624.out⟩, ⟨by repeat ((with_reducible (exact HB.out)))⟩⟩
        rw [if_pos c169] at H
        have c169b0 : (t607 == 0) = true := beq_iff_eq.mpr c169
        have c169b1 : (t607 != 0) = false := bne_eq_false_iff_eq.mpr c169
        clear c169
        replace H := Option.bind_eq_some_iff.mp H
        obtain ⟨⟨t672, t673, t674, t677, t678⟩, A1700, H⟩ := H
        (try dsimp -simprocs only at H)
        have A170 := Aside0.mk A1700
        clear A1700
        by_cases c171 : t678 = 10
        rotate_left
        ·
         rw [if_neg c171] at H
         have c171b0 : (t678 == 10) = false := beq_eq_false_iff_ne.mpr c171
         have c171b1 : (t678 != 10) = true := bne_iff_ne.mpr c171
         have H' := Aside0.mk H
         clear H
         go_wp2_with ((go_at_call 7; (with_reducible refine (impl_DbResult.calls kj117 t601 t602 _ _ t603 t598 t599 t672 t673 t674 t677 t678 _ ?side1 ?side2 A170.out zb4_17).mono ?_); (case side1 => repeat ((exact (Kd.R_reads' HO_609002.out).2.2))); (case side2 => exact (Kd.R_reads' HO_609002.out).2.1); rintro e w188 ⟨v675, rfl, ho0, hb⟩; have HO676 := Aside0.mk (Kd.R_lower (Kd.R_new' (Kd.R_new' (Kd.R_new' (Kd.R_new' (Kd.R_new' (Kd.R_new' ho0 (Kd.R_lt zb40_17)) (Kd.R_lt zb41_17)) (Kd.R_lt zb42_17)) (Kd.R_lt zb43_17)) (Kd.R_lt zb44_17)) (Kd.R_lt zb45_17)) (below_size zb33_17)); replace HO_585002 := Aside0.mk (Kd.R_elder' zb40_17 (Kd.R_base ho0) hb); replace HO_593002 := Aside0.mk (Kd.R_elder' zb41_17 (Kd.R_base ho0) hb); replace HO_601002 := Aside0.mk (Kd.R_elder' zb42_17 (Kd.R_base ho0) hb); replace HO_609002 := Aside0.mk (Kd.R_elder' zb43_17 (Kd.R_base ho0) hb); replace HO_617002 := Aside0.mk (Kd.R_elder' zb44_17 (Kd.R_base ho0) hb); replace HO_625002 := Aside0.mk (Kd.R_elder' zb45_17 (Kd.R_base ho0) hb); replace BK584 := bkb BK584 hb; replace BK592 := bkb BK592 hb; replace BK600 := bkb BK600 hb; replace BK608 := bkb BK608 hb; replace BK616 := bkb BK616 hb; replace BK624 := bkb BK624 hb; replace HB := Aside0.mk (below_step zb33_17 hb); (try clear hb); (try clear ho0)))
         go_meet
         case rel => exact ⟨_, (true), zb0_17, H', ⟨by have := HJ2.out; have := HJ11.out; have := HJ117.out; omega⟩, ⟨by exact Kd.R_mono HO_585002.out (fun _ hk => ⟨hk.1.1, ⟨hk.1.2.1, ⟨hk.1.2.2.1, ⟨hk.1.2.2.2.1, hk.1.2.2.2.2⟩⟩⟩⟩)⟩, ⟨by exact Kd.R_mono HO_593002.out (fun _ hk => ⟨hk.1.1, ⟨hk.1.2.1, ⟨hk.1.2.2.1, ⟨hk.1.2.2.2.1, hk.1.2.2.2.2⟩⟩⟩⟩)⟩, ⟨by exact Kd.R_mono HO_601002.out (fun _ hk => ⟨hk.1.1, ⟨hk.1.2.1, ⟨hk.1.2.2.1, ⟨hk.1.2.2.2.1, hk.1.2.2.2.2⟩⟩⟩⟩)⟩, ⟨by exact Kd.R_mono HO_609002.out (fun _ hk => ⟨hk.1.1, ⟨hk.1.2.1, ⟨hk.1.2.2.1, ⟨hk.1.2.2.2.1, hk.1.2.2.2.2⟩⟩⟩⟩)⟩, ⟨by exact Kd.R_mono HO_617002.out (fun _ hk => ⟨hk.1.1, ⟨hk.1.2.1, ⟨hk.1.2.2.1, ⟨hk.1.2.2.2.1, hk.1.2.2.2.2⟩⟩⟩⟩)⟩, ⟨by exact Kd.R_mono HO_625002.out (fun _ hk => ⟨hk.1.1, ⟨hk.1.2.1, ⟨hk.1.2.2.1, ⟨hk.1.2.2.2.1, hk.1.2.2.2.2⟩⟩⟩⟩)⟩, ⟨by exact BK584.out⟩, ⟨by exact BK592.out⟩, ⟨by exact BK600.out⟩, ⟨by exact BK608.out⟩, ⟨by exact BK616.out⟩, ⟨by exact BK624.out⟩, ⟨by repeat ((with_reducible (exact HB.out)))⟩⟩
        rw [if_pos c171] at H
        have c171b0 : (t678 == 10) = true := beq_iff_eq.mpr c171
        have c171b1 : (t678 != 10) = false := bne_eq_false_iff_eq.mpr c171
        clear c171
        replace H := Option.bind_eq_some_iff.mp H
        obtain ⟨t679, A1720, H⟩ := H
        (try dsimp -simprocs only at H)
        have A172 := Aside0.mk A1720
        clear A1720
        have H' := Aside0.mk H
        clear H
        go_wp2_with (first | (go_at_call 7; (with_reducible refine (impl_DbResult.calls kj117 t601 t602 _ _ t603 t598 t599 t672 t673 t674 t677 t678 _ ?side1 ?side2 A170.out zb4_17).mono ?_); (case side1 => repeat ((exact (Kd.R_reads' HO_609002.out).2.2))); (case side2 => exact (Kd.R_reads' HO_609002.out).2.1); rintro e w179 ⟨v675, rfl, ho0, hb⟩; have HO676 := Aside0.mk (Kd.R_lower (Kd.R_new' (Kd.R_new' (Kd.R_new' (Kd.R_new' (Kd.R_new' (Kd.R_new' ho0 (Kd.R_lt zb40_17)) (Kd.R_lt zb41_17)) (Kd.R_lt zb42_17)) (Kd.R_lt zb43_17)) (Kd.R_lt zb44_17)) (Kd.R_lt zb45_17)) (below_size zb33_17)); replace HO_585002 := Aside0.mk (Kd.R_elder' zb40_17 (Kd.R_base ho0) hb); replace HO_593002 := Aside0.mk (Kd.R_elder' zb41_17 (Kd.R_base ho0) hb); replace HO_601002 := Aside0.mk (Kd.R_elder' zb42_17 (Kd.R_base ho0) hb); replace HO_609002 := Aside0.mk (Kd.R_elder' zb43_17 (Kd.R_base ho0) hb); replace HO_617002 := Aside0.mk (Kd.R_elder' zb44_17 (Kd.R_base ho0) hb); replace HO_625002 := Aside0.mk (Kd.R_elder' zb45_17 (Kd.R_base ho0) hb); replace BK584 := bkb BK584 hb; replace BK592 := bkb BK592 hb; replace BK600 := bkb BK600 hb; replace BK608 := bkb BK608 hb; replace BK616 := bkb BK616 hb; replace BK624 := bkb BK624 hb; replace HB := Aside0.mk (below_step zb33_17 hb); (try clear hb); (try clear ho0); obtain ⟨z0, z1, z2, z3, z4, z5, z6, z7, z8, z9⟩ := bz5 BK608.out) | (go_at_call 15; (with_reducible refine (spec_DialbackRight.calls kj117 t601 t602 _ _ t603 t679 _ ?side1 ?side2 A172.out).mono ?_); (case side1 => repeat ((exact (Kd.R_reads' HO_609002.out).2.2))); (case side2 => exact (Kd.R_reads' HO_609002.out).2.1); rintro e w181 ⟨rfl, hb⟩; replace HO_585002 := Aside0.mk (Kd.R_below zb40_17 hb); replace HO_593002 := Aside0.mk (Kd.R_below zb41_17 hb); replace HO_601002 := Aside0.mk (Kd.R_below zb42_17 hb); replace HO_609002 := Aside0.mk (Kd.R_below zb43_17 hb); replace HO_617002 := Aside0.mk (Kd.R_below zb44_17 hb); replace HO_625002 := Aside0.mk (Kd.R_below zb45_17 hb); replace HO676 := Aside0.mk (Kd.R_below (by exact HO676.out) hb); replace BK584 := bkb BK584 hb; replace BK592 := bkb BK592 hb; replace BK600 := bkb BK600 hb; replace BK608 := bkb BK608 hb; replace BK616 := bkb BK616 hb; replace BK624 := bkb BK624 hb; replace HB := Aside0.mk (below_step zb33_17 hb); (try clear hb)))
        go_meet
        case rel => exact ⟨_, (!t679), zb0_17, H', ⟨by have := HJ2.out; have := HJ11.out; have := HJ117.out; omega⟩, ⟨by exact Kd.R_mono HO_585002.out (fun _ hk => ⟨hk.1.1, ⟨hk.1.2.1, ⟨hk.1.2.2.1, ⟨hk.1.2.2.2.1, hk.1.2.2.2.2⟩⟩⟩⟩)⟩, ⟨by exact Kd.R_mono HO_593002.out (fun _ hk => ⟨hk.1.1, ⟨hk.1.2.1, ⟨hk.1.2.2.1, ⟨hk.1.2.2.2.1, hk.1.2.2.2.2⟩⟩⟩⟩)⟩, ⟨by exact Kd.R_mono HO_601002.out (fun _ hk => ⟨hk.1.1, ⟨hk.1.2.1, ⟨hk.1.2.2.1, ⟨hk.1.2.2.2.1, hk.1.2.2.2.2⟩⟩⟩⟩)⟩, ⟨by exact Kd.R_mono HO_609002.out (fun _ hk => ⟨hk.1.1, ⟨hk.1.2.1, ⟨hk.1.2.2.1, ⟨hk.1.2.2.2.1, hk.1.2.2.2.2⟩⟩⟩⟩)⟩, ⟨by exact Kd.R_mono HO_617002.out (fun _ hk => ⟨hk.1.1, ⟨hk.1.2.1, ⟨hk.1.2.2.1, ⟨hk.1.2.2.2.1, hk.1.2.2.2.2⟩⟩⟩⟩)⟩, ⟨by exact Kd.R_mono HO_625002.out (fun _ hk => ⟨hk.1.1, ⟨hk.1.2.1, ⟨hk.1.2.2.1, ⟨hk.1.2.2.2.1, hk.1.2.2.2.2⟩⟩⟩⟩)⟩, ⟨by exact BK584.out⟩, ⟨by exact BK592.out⟩, ⟨by exact BK600.out⟩, ⟨by exact BK608.out⟩, ⟨by exact BK616.out⟩, ⟨by exact BK624.out⟩, ⟨by repeat ((with_reducible (exact HB.out)))⟩⟩
       case rest => as_aux_lemma =>
        clear HC168
        obtain ⟨kq, x157_167, rfl, HA, HJ167, HO_585002, HO_593002, HO_601002, HO_609002, HO_617002, HO_625002, BK584, BK592, BK600, BK608, BK616, BK624, HB⟩ := hcut
        cases kq with
        | zero => exact absurd HA.out (by simp [laws_FnDialback.j3])
        | succ kj167 =>
         have H := HA.out
         clear HA
         simp only [laws_FnDialback.j3] at H
         by_cases c195 : x157_167 = true
         · subst c195; rw [if_pos rfl] at H; exact absurd ((Option.some.inj H).trans hrt.out) (by decide)
         replace c195 := Bool.eq_false_iff.mpr c195
         subst c195
         rw [if_neg (show ¬ (false = true) by decide)] at H
         replace H := Option.bind_eq_some_iff.mp H
         obtain ⟨⟨t680, t681, t682, t685, t686⟩, A1960, H⟩ := H
         (try dsimp -simprocs only at H)
         have A196 := Aside0.mk A1960
         clear A1960
         have HC197 := Aside0.mk H
         clear H
         go_upto_region 16 with (first | ((with_reducible refine gate_callee (f := 16) rfl ?_); refine goesL_ (some 160) rfl rfl Tryd.func16 (by kernel_rfl) rfl #[.slice A0 l0.length c0] rfl zb1_17 ?_; (with_reducible refine (spec_DrawDbTrusts.calls kj167 _ _ l0 t680 t681 t682 t685 t686 _ ?side1 ?side2 A196.out).mono ?_); (case side1 => repeat ((exact (Kd.C_below HR0.out HB.out)))); (case side2 => exact HC0.out); rintro e w198 ⟨v683, rfl, ho0, hb⟩; refine ⟨_, rfl, ?_⟩; have HO684 := Aside0.mk (Kd.R_lower (Kd.R_new' (Kd.R_new' (Kd.R_new' (Kd.R_new' (Kd.R_new' (Kd.R_new' ho0 (Kd.R_lt zb40_17)) (Kd.R_lt zb41_17)) (Kd.R_lt zb42_17)) (Kd.R_lt zb43_17)) (Kd.R_lt zb44_17)) (Kd.R_lt zb45_17)) (below_size zb33_17)); replace HO_585002 := Aside0.mk (Kd.R_elder' zb40_17 (Kd.R_base ho0) hb); replace HO_593002 := Aside0.mk (Kd.R_elder' zb41_17 (Kd.R_base ho0) hb); replace HO_601002 := Aside0.mk (Kd.R_elder' zb42_17 (Kd.R_base ho0) hb); replace HO_609002 := Aside0.mk (Kd.R_elder' zb43_17 (Kd.R_base ho0) hb); replace HO_617002 := Aside0.mk (Kd.R_elder' zb44_17 (Kd.R_base ho0) hb); replace HO_625002 := Aside0.mk (Kd.R_elder' zb45_17 (Kd.R_base ho0) hb); replace BK584 := bkb BK584 hb; replace BK592 := bkb BK592 hb; replace BK600 := bkb BK600 hb; replace BK608 := bkb BK608 hb; replace BK616 := bkb BK616 hb; replace BK624 := bkb BK624 hb; replace HB := Aside0.mk (below_step zb33_17 hb); (try clear hb); (try clear ho0)) | ((with_reducible refine gate_dst (N := 16) rfl ?_); (try (refine gate_guard (by rfl) ?_; dsimp only)); refine box_event ?hg (N := 16) ?hd (cs := #[.string (⟨#[]⟩ : ByteArray), .int .i64 0, .slice none 0 0]) (t := 25) ?hr ?_; (case hd => rfl); (case hg => rfl); (case hr => (go_simp; done)); intro gb687 hg w199 hbox hb; replace HO_585002 := Aside0.mk (Kd.R_below zb40_17 hb); replace HO_593002 := Aside0.mk (Kd.R_below zb41_17 hb); replace HO_601002 := Aside0.mk (Kd.R_below zb42_17 hb); replace HO_609002 := Aside0.mk (Kd.R_below zb43_17 hb); replace HO_617002 := Aside0.mk (Kd.R_below zb44_17 hb); replace HO_625002 := Aside0.mk (Kd.R_below zb45_17 hb); replace HO684 := Aside0.mk (Kd.R_below zb46_17 hb); have BK687 := Aside0.mk (hbox); have GW687 := Aside0.mk ((by rw [hg]; exact (below_size zb33_17) : w.heap.size ≤ gb687)); have GE687 := Aside0.mk ((by rw [hg]; exact (below_size zb33_17) : w.heap.size ≤ gb687)); replace HB := Aside0.mk (below_step zb33_17 hb); have NB584_687 := Aside0.mk ((zb9_17 : gb584 ≠ gb687)); have NB687_584 := Aside0.mk ((zb10_17 : gb687 ≠ gb584)); replace BK584 := bkb BK584 hb; have NB592_687 := Aside0.mk ((zb14_17 : gb592 ≠ gb687)); have NB687_592 := Aside0.mk ((zb15_17 : gb687 ≠ gb592)); replace BK592 := bkb BK592 hb; have NB600_687 := Aside0.mk ((zb20_17 : gb600 ≠ gb687)); have NB687_600 := Aside0.mk ((zb21_17 : gb687 ≠ gb600)); replace BK600 := bkb BK600 hb; have NB608_687 := Aside0.mk ((zb25_17 : gb608 ≠ gb687)); have NB687_608 := Aside0.mk ((zb26_17 : gb687 ≠ gb608)); replace BK608 := bkb BK608 hb; have NB616_687 := Aside0.mk ((zb31_17 : gb616 ≠ gb687)); have NB687_616 := Aside0.mk ((zb32_17 : gb687 ≠ gb616)); replace BK616 := bkb BK616 hb; have NB624_687 := Aside0.mk ((by rw [hg]; exact Nat.ne_of_lt (blk_lt (g := gb624) (o := .cells #[.string t617, .int .i64 t618, .slice Ao51 t619.length co51, .int .i64 t622, .int .i64 t623] 29 (0, 0)) zb34_17) : gb624 ≠ gb687)); have NB687_624 := Aside0.mk ((by rw [hg]; exact Nat.ne_of_gt (blk_lt (g := gb624) (o := .cells #[.string t617, .int .i64 t618, .slice Ao51 t619.length co51, .int .i64 t622, .int .i64 t623] 29 (0, 0)) zb34_17) : gb687 ≠ gb624)); replace BK624 := bkb BK624 hb; clear hb hbox hg; have hnb200 := NB687_584.out; have hnc200 := NB584_687.out; have hnb201 := NB687_592.out; have hnc201 := NB592_687.out; have hnb202 := NB687_600.out; have hnc202 := NB600_687.out; have hnb203 := NB687_608.out; have hnc203 := NB608_687.out; have hnb204 := NB687_616.out; have hnc204 := NB616_687.out; have hnb205 := NB687_624.out; have hnc205 := NB624_687.out; obtain ⟨z0, z1, z2, z3, z4, z5⟩ := bz3 BK687.out; obtain ⟨Ao207, co207, eo207⟩ := Kd.R_slice HO684.out; subst eo207))
         go_cut [184] (fun v184 wc => ∃ (kq : Nat) (x184_196 : Bool), v184 = .bool x184_196 ∧ Aside0 (laws_FnDialback.j4 kq t614 t615 t685 t686 x184_196 t617 t618 t619 t622 t623 t680 t681 t682 = some r) ∧ Aside0 (kq ≤ kj167) ∧ Aside0 (Kd.R k43 43 wc w.heap.size (fun k_ => some k_ ≠ ((.slice Ao21 t587.length co21) : Value).ownBlock ∧ some k_ ≠ ((.slice Ao27 t595.length co27) : Value).ownBlock ∧ some k_ ≠ ((.slice Ao34 t603.length co34) : Value).ownBlock ∧ some k_ ≠ ((.slice Ao42 t611.length co42) : Value).ownBlock ∧ some k_ ≠ ((.slice Ao51 t619.length co51) : Value).ownBlock ∧ some k_ ≠ ((.slice Ao207 t682.length co207) : Value).ownBlock) (.slice Ao16 t580.length co16) t580) ∧ Aside0 (Kd.R k43 43 wc w.heap.size (fun k_ => some k_ ≠ ((.slice Ao16 t580.length co16) : Value).ownBlock ∧ some k_ ≠ ((.slice Ao27 t595.length co27) : Value).ownBlock ∧ some k_ ≠ ((.slice Ao34 t603.length co34) : Value).ownBlock ∧ some k_ ≠ ((.slice Ao42 t611.length co42) : Value).ownBlock ∧ some k_ ≠ ((.slice Ao51 t619.length co51) : Value).ownBlock ∧ some k_ ≠ ((.slice Ao207 t682.length co207) : Value).ownBlock) (.slice Ao21 t587.length co21) t587) ∧ Aside0 (Kd.R k43 43 wc w.heap.size (fun k_ => some k_ ≠ ((.slice Ao16 t580.length co16) : Value).ownBlock ∧ some k_ ≠ ((.slice Ao21 t587.length co21) : Value).ownBlock ∧ some k_ ≠ ((.slice Ao34 t603.length co34) : Value).ownBlock ∧ some k_ ≠ ((.slice Ao42 t611.length co42) : Value).ownBlock ∧ some k_ ≠ ((.slice Ao51 t619.length co51) : Value).ownBlock ∧ some k_ ≠ ((.slice Ao207 t682.length co207) : Value).ownBlock) (.slice Ao27 t595.length co27) t595) ∧ Aside0 (Kd.R k43 43 wc w.heap.size (fun k_ => some k_ ≠ ((.slice Ao16 t580.length co16) : Value).ownBlock ∧ some k_ ≠ ((.slice Ao21 t587.length co21) : Value).ownBlock ∧ some k_ ≠ ((.slice Ao27 t595.length co27) : Value).ownBlock ∧ some k_ ≠ ((.slice Ao42 t611.length co42) : Value).ownBlock ∧ some k_ ≠ ((.slice Ao51 t619.length co51) : Value).ownBlock ∧ some k_ ≠ ((.slice Ao207 t682.length co207) : Value).ownBlock) (.slice Ao34 t603.length co34) t603) ∧ Aside0 (Kd.R k43 43 wc w.heap.size (fun k_ => some k_ ≠ ((.slice Ao16 t580.length co16) : Value).ownBlock ∧ some k_ ≠ ((.slice Ao21 t587.length co21) : Value).ownBlock ∧ some k_ ≠ ((.slice Ao27 t595.length co27) : Value).ownBlock ∧ some k_ ≠ ((.slice Ao34 t603.length co34) : Value).ownBlock ∧ some k_ ≠ ((.slice Ao51 t619.length co51) : Value).ownBlock ∧ some k_ ≠ ((.slice Ao207 t682.length co207) : Value).ownBlock) (.slice Ao42 t611.length co42) t611) ∧ Aside0 (Kd.R k43 43 wc w.heap.size (fun k_ => some k_ ≠ ((.slice Ao16 t580.length co16) : Value).ownBlock ∧ some k_ ≠ ((.slice Ao21 t587.length co21) : Value).ownBlock ∧ some k_ ≠ ((.slice Ao27 t595.length co27) : Value).ownBlock ∧ some k_ ≠ ((.slice Ao34 t603.length co34) : Value).ownBlock ∧ some k_ ≠ ((.slice Ao42 t611.length co42) : Value).ownBlock ∧ some k_ ≠ ((.slice Ao207 t682.length co207) : Value).ownBlock) (.slice Ao51 t619.length co51) t619) ∧ Aside0 (Kd.R k43 43 wc w.heap.size (fun k_ => some k_ ≠ ((.slice Ao16 t580.length co16) : Value).ownBlock ∧ some k_ ≠ ((.slice Ao21 t587.length co21) : Value).ownBlock ∧ some k_ ≠ ((.slice Ao27 t595.length co27) : Value).ownBlock ∧ some k_ ≠ ((.slice Ao34 t603.length co34) : Value).ownBlock ∧ some k_ ≠ ((.slice Ao42 t611.length co42) : Value).ownBlock ∧ some k_ ≠ ((.slice Ao51 t619.length co51) : Value).ownBlock) (.slice Ao207 t682.length co207) t682) ∧ Aside0 (wc.heap[gb584]? = some (.cells #[.string t578, .int .i64 t579, (.slice Ao16 t580.length co16)] 25 (0, 0))) ∧ Aside0 (wc.heap[gb592]? = some (.cells #[.string t585, .int .i64 t586, (.slice Ao21 t587.length co21), .int .i64 t590, .int .i64 t591] 29 (0, 0))) ∧ Aside0 (wc.heap[gb600]? = some (.cells #[.string t593, .int .i64 t594, (.slice Ao27 t595.length co27)] 25 (0, 0))) ∧ Aside0 (wc.heap[gb608]? = some (.cells #[.string t601, .int .i64 t602, (.slice Ao34 t603.length co34), .int .i64 t606, .int .i64 t607] 29 (0, 0))) ∧ Aside0 (wc.heap[gb616]? = some (.cells #[.string t609, .int .i64 t610, (.slice Ao42 t611.length co42)] 25 (0, 0))) ∧ Aside0 (wc.heap[gb624]? = some (.cells #[.string t617, .int .i64 t618, (.slice Ao51 t619.length co51), .int .i64 t622, .int .i64 t623] 29 (0, 0))) ∧ Aside0 (wc.heap[gb687]? = some (.cells #[.string t680, .int .i64 t681, (.slice Ao207 t682.length co207)] 25 (0, 0))) ∧ Aside0 (Below w.heap.size w wc))
         case first => as_aux_lemma =>
          have H := HC197.out
          clear HC197
          replace H := Option.bind_eq_some_iff.mp H
          obtain ⟨t688, A2080, H⟩ := H
          (try dsimp -simprocs only at H)
          have A208 := Aside0.mk A2080
          clear A2080
          replace H := Option.bind_eq_some_iff.mp H
          obtain ⟨t689, A2090, H⟩ := H
          (try dsimp -simprocs only at H)
          have A209 := Aside0.mk A2090
          clear A2090
          try go_wp2
          obtain ⟨w211, hq_⟩ : ∃ W_, W_ = (((w199.setCell ⟨gb687, 0, none⟩ (.string t680)).setCell ⟨gb687, 1, none⟩ (.int .i64 t681)).setCell ⟨gb687, 2, none⟩ (.slice Ao207 t682.length co207)) := ⟨_, rfl⟩
          rw [← hq_]
          have n0_ : Aside0 (Kd.R k43 43 w211 w.heap.size (fun k_ => some k_ ≠ (.slice Ao21 t587.length co21 : Value).ownBlock ∧ some k_ ≠ (.slice Ao27 t595.length co27 : Value).ownBlock ∧ some k_ ≠ (.slice Ao34 t603.length co34 : Value).ownBlock ∧ some k_ ≠ (.slice Ao42 t611.length co42 : Value).ownBlock ∧ some k_ ≠ (.slice Ao51 t619.length co51 : Value).ownBlock ∧ some k_ ≠ (.slice Ao207 t682.length co207 : Value).ownBlock) (.slice Ao16 t580.length co16) t580) := ⟨by rw [hq_]; exact Kd.R_mono (rfa (rfa (rfa (Kd.R_types HO_585002.out BK687.out (by decide)) (fun _ h => h.2)) (fun _ h => h.2)) (fun _ h => h.2)) (fun _ hk => ⟨hk.1.1.1, ⟨hk.1.1.2.1, ⟨hk.1.1.2.2.1, ⟨hk.1.1.2.2.2.1, ⟨hk.1.1.2.2.2.2, hk.1.2⟩⟩⟩⟩⟩)⟩
          have n1_ : Aside0 (Kd.R k43 43 w211 w.heap.size (fun k_ => some k_ ≠ (.slice Ao16 t580.length co16 : Value).ownBlock ∧ some k_ ≠ (.slice Ao27 t595.length co27 : Value).ownBlock ∧ some k_ ≠ (.slice Ao34 t603.length co34 : Value).ownBlock ∧ some k_ ≠ (.slice Ao42 t611.length co42 : Value).ownBlock ∧ some k_ ≠ (.slice Ao51 t619.length co51 : Value).ownBlock ∧ some k_ ≠ (.slice Ao207 t682.length co207 : Value).ownBlock) (.slice Ao21 t587.length co21) t587) := ⟨by rw [hq_]; exact Kd.R_mono (rfa (rfa (rfa (Kd.R_types HO_593002.out BK687.out (by decide)) (fun _ h => h.2)) (fun _ h => h.2)) (fun _ h => h.2)) (fun _ hk => ⟨hk.1.1.1, ⟨hk.1.1.2.1, ⟨hk.1.1.2.2.1, ⟨hk.1.1.2.2.2.1, ⟨hk.1.1.2.2.2.2, hk.1.2⟩⟩⟩⟩⟩)⟩
          have n2_ : Aside0 (Kd.R k43 43 w211 w.heap.size (fun k_ => some k_ ≠ (.slice Ao16 t580.length co16 : Value).ownBlock ∧ some k_ ≠ (.slice Ao21 t587.length co21 : Value).ownBlock ∧ some k_ ≠ (.slice Ao34 t603.length co34 : Value).ownBlock ∧ some k_ ≠ (.slice Ao42 t611.length co42 : Value).ownBlock ∧ some k_ ≠ (.slice Ao51 t619.length co51 : Value).ownBlock ∧ some k_ ≠ (.slice Ao207 t682.length co207 : Value).ownBlock) (.slice Ao27 t595.length co27) t595) := ⟨by rw [hq_]; exact Kd.R_mono (rfa (rfa (rfa (Kd.R_types HO_601002.out BK687.out (by decide)) (fun _ h => h.2)) (fun _ h => h.2)) (fun _ h => h.2)) (fun _ hk => ⟨hk.1.1.1, ⟨hk.1.1.2.1, ⟨hk.1.1.2.2.1, ⟨hk.1.1.2.2.2.1, ⟨hk.1.1.2.2.2.2, hk.1.2⟩⟩⟩⟩⟩)⟩
          have n3_ : Aside0 (Kd.R k43 43 w211 w.heap.size (fun k_ => some k_ ≠ (.slice Ao16 t580.length co16 : Value).ownBlock ∧ some k_ ≠ (.slice Ao21 t587.length co21 : Value).ownBlock ∧ some k_ ≠ (.slice Ao27 t595.length co27 : Value).ownBlock ∧ some k_ ≠ (.slice Ao42 t611.length co42 : Value).ownBlock ∧ some k_ ≠ (.slice Ao51 t619.length co51 : Value).ownBlock ∧ some k_ ≠ (.slice Ao207 t682.length co207 : Value).ownBlock) (.slice Ao34 t603.length co34) t603) := ⟨by rw [hq_]; exact Kd.R_mono (rfa (rfa (rfa (Kd.R_types HO_609002.out BK687.out (by decide)) (fun _ h => h.2)) (fun _ h => h.2)) (fun _ h => h.2)) (fun _ hk => ⟨hk.1.1.1, ⟨hk.1.1.2.1, ⟨hk.1.1.2.2.1, ⟨hk.1.1.2.2.2.1, ⟨hk.1.1.2.2.2.2, hk.1.2⟩⟩⟩⟩⟩)⟩
          have n4_ : Aside0 (Kd.R k43 43 w211 w.heap.size (fun k_ => some k_ ≠ (.slice Ao16 t580.length co16 : Value).ownBlock ∧ some k_ ≠ (.slice Ao21 t587.length co21 : Value).ownBlock ∧ some k_ ≠ (.slice Ao27 t595.length co27 : Value).ownBlock ∧ some k_ ≠ (.slice Ao34 t603.length co34 : Value).ownBlock ∧ some k_ ≠ (.slice Ao51 t619.length co51 : Value).ownBlock ∧ some k_ ≠ (.slice Ao207 t682.length co207 : Value).ownBlock) (.slice Ao42 t611.length co42) t611) := ⟨by rw [hq_]; exact Kd.R_mono (rfa (rfa (rfa (Kd.R_types HO_617002.out BK687.out (by decide)) (fun _ h => h.2)) (fun _ h => h.2)) (fun _ h => h.2)) (fun _ hk => ⟨hk.1.1.1, ⟨hk.1.1.2.1, ⟨hk.1.1.2.2.1, ⟨hk.1.1.2.2.2.1, ⟨hk.1.1.2.2.2.2, hk.1.2⟩⟩⟩⟩⟩)⟩
          have n5_ : Aside0 (Kd.R k43 43 w211 w.heap.size (fun k_ => some k_ ≠ (.slice Ao16 t580.length co16 : Value).ownBlock ∧ some k_ ≠ (.slice Ao21 t587.length co21 : Value).ownBlock ∧ some k_ ≠ (.slice Ao27 t595.length co27 : Value).ownBlock ∧ some k_ ≠ (.slice Ao34 t603.length co34 : Value).ownBlock ∧ some k_ ≠ (.slice Ao42 t611.length co42 : Value).ownBlock ∧ some k_ ≠ (.slice Ao207 t682.length co207 : Value).ownBlock) (.slice Ao51 t619.length co51) t619) := ⟨by rw [hq_]; exact Kd.R_mono (rfa (rfa (rfa (Kd.R_types HO_625002.out BK687.out (by decide)) (fun _ h => h.2)) (fun _ h => h.2)) (fun _ h => h.2)) (fun _ hk => ⟨hk.1.1.1, ⟨hk.1.1.2.1, ⟨hk.1.1.2.2.1, ⟨hk.1.1.2.2.2.1, ⟨hk.1.1.2.2.2.2, hk.1.2⟩⟩⟩⟩⟩)⟩
          have n6_ : Aside0 (Kd.R k43 43 w211 w.heap.size (fun k_ => some k_ ≠ (.slice Ao16 t580.length co16 : Value).ownBlock ∧ some k_ ≠ (.slice Ao21 t587.length co21 : Value).ownBlock ∧ some k_ ≠ (.slice Ao27 t595.length co27 : Value).ownBlock ∧ some k_ ≠ (.slice Ao34 t603.length co34 : Value).ownBlock ∧ some k_ ≠ (.slice Ao42 t611.length co42 : Value).ownBlock ∧ some k_ ≠ (.slice Ao51 t619.length co51 : Value).ownBlock) (.slice Ao207 t682.length co207) t682) := ⟨by rw [hq_]; exact Kd.R_mono (rfa (rfa (rfa (Kd.R_types HO684.out BK687.out (by decide)) (fun _ h => h.2)) (fun _ h => h.2)) (fun _ h => h.2)) (fun _ hk => ⟨hk.1.1.1.1.1.1.2, ⟨hk.1.1.1.1.1.2, ⟨hk.1.1.1.1.2, ⟨hk.1.1.1.2, ⟨hk.1.1.2, hk.1.2⟩⟩⟩⟩⟩)⟩
          have n7_ : Aside0 (w211.heap[gb584]? = some (.cells #[.string t578, .int .i64 t579, .slice Ao16 t580.length co16] 25 (0, 0))) := ⟨by rw [hq_]; refine blk_far ?_ NB584_687.out _; refine blk_far ?_ NB584_687.out _; refine blk_far ?_ NB584_687.out _; exact BK584.out⟩
          have n8_ : Aside0 (w211.heap[gb592]? = some (.cells #[.string t585, .int .i64 t586, .slice Ao21 t587.length co21, .int .i64 t590, .int .i64 t591] 29 (0, 0))) := ⟨by rw [hq_]; refine blk_far ?_ NB592_687.out _; refine blk_far ?_ NB592_687.out _; refine blk_far ?_ NB592_687.out _; exact BK592.out⟩
          have n9_ : Aside0 (w211.heap[gb600]? = some (.cells #[.string t593, .int .i64 t594, .slice Ao27 t595.length co27] 25 (0, 0))) := ⟨by rw [hq_]; refine blk_far ?_ NB600_687.out _; refine blk_far ?_ NB600_687.out _; refine blk_far ?_ NB600_687.out _; exact BK600.out⟩
          have n10_ : Aside0 (w211.heap[gb608]? = some (.cells #[.string t601, .int .i64 t602, .slice Ao34 t603.length co34, .int .i64 t606, .int .i64 t607] 29 (0, 0))) := ⟨by rw [hq_]; refine blk_far ?_ NB608_687.out _; refine blk_far ?_ NB608_687.out _; refine blk_far ?_ NB608_687.out _; exact BK608.out⟩
          have n11_ : Aside0 (w211.heap[gb616]? = some (.cells #[.string t609, .int .i64 t610, .slice Ao42 t611.length co42] 25 (0, 0))) := ⟨by rw [hq_]; refine blk_far ?_ NB616_687.out _; refine blk_far ?_ NB616_687.out _; refine blk_far ?_ NB616_687.out _; exact BK616.out⟩
          have n12_ : Aside0 (w211.heap[gb624]? = some (.cells #[.string t617, .int .i64 t618, .slice Ao51 t619.length co51, .int .i64 t622, .int .i64 t623] 29 (0, 0))) := ⟨by rw [hq_]; refine blk_far ?_ NB624_687.out _; refine blk_far ?_ NB624_687.out _; refine blk_far ?_ NB624_687.out _; exact BK624.out⟩
          have n13_ : Aside0 (w211.heap[gb687]? = some (.cells #[.string t680, .int .i64 t681, .slice Ao207 t682.length co207] 25 (0, 0))) := ⟨by rw [hq_]; apply bp3; exact BK687.out⟩
          have n14_ : Aside0 (Below w.heap.size w w211) := ⟨by rw [hq_]; repeat ((with_reducible first | exact HB.out | refine below_set ?_ GE687.out))⟩
          (try clear HO_585002)
          (try clear HO_593002)
          (try clear HO_601002)
          (try clear HO_609002)
          (try clear HO_617002)
          (try clear HO_625002)
          (try clear HO684)
          (try clear BK584)
          (try clear BK592)
          (try clear BK600)
          (try clear BK608)
          (try clear BK616)
          (try clear BK624)
          (try clear BK687)
          (try clear HB)
          clear hq_
          have HO_585002 := n0_
          have HO_593002 := n1_
          have HO_601002 := n2_
          have HO_609002 := n3_
          have HO_617002 := n4_
          have HO_625002 := n5_
          have HO684 := n6_
          have BK584 := n7_
          have BK592 := n8_
          have BK600 := n9_
          have BK608 := n10_
          have BK616 := n11_
          have BK624 := n12_
          have BK687 := n13_
          have HB := n14_
          clear n0_ n1_ n2_ n3_ n4_ n5_ n6_ n7_ n8_ n9_ n10_ n11_ n12_ n13_ n14_
          replace HO_585002 := Aside0.mk (Kd.R_drew HO_585002.out)
          replace HO_593002 := Aside0.mk (Kd.R_drew HO_593002.out)
          replace HO_601002 := Aside0.mk (Kd.R_drew HO_601002.out)
          replace HO_609002 := Aside0.mk (Kd.R_drew HO_609002.out)
          replace HO_617002 := Aside0.mk (Kd.R_drew HO_617002.out)
          replace HO_625002 := Aside0.mk (Kd.R_drew HO_625002.out)
          replace HO684 := Aside0.mk (Kd.R_drew HO684.out)
          replace BK584 := Aside0.mk (blk_drew BK584.out)
          replace BK592 := Aside0.mk (blk_drew BK592.out)
          replace BK600 := Aside0.mk (blk_drew BK600.out)
          replace BK608 := Aside0.mk (blk_drew BK608.out)
          replace BK616 := Aside0.mk (blk_drew BK616.out)
          replace BK624 := Aside0.mk (blk_drew BK624.out)
          replace BK687 := Aside0.mk (blk_drew BK687.out)
          replace HB := Aside0.mk (below_drew1 HB.out)
          refine start_ (n := 21) (S := fun w' => w'.cell? ⟨gb687, 0, none⟩ = some (.string t680) ∧ w'.cell? ⟨gb687, 1, none⟩ = some (.int .i64 t681) ∧ w'.cell? ⟨gb687, 2, none⟩ = some (.slice Ao207 t682.length co207) ∧ w'.cell? ⟨gb624, 0, none⟩ = some (.string t617) ∧ w'.cell? ⟨gb624, 1, none⟩ = some (.int .i64 t618) ∧ w'.cell? ⟨gb624, 2, none⟩ = some (.slice Ao51 t619.length co51) ∧ w'.cell? ⟨gb624, 3, none⟩ = some (.int .i64 t622) ∧ w'.cell? ⟨gb624, 4, none⟩ = some (.int .i64 t623)) (ds := []) zm74_17 (by kernel_rfl) rfl rfl ⟨(blk_cell BK687.out 0).trans rfl, (blk_cell BK687.out 1).trans rfl, (blk_cell BK687.out 2).trans rfl, (blk_cell BK624.out 0).trans rfl, (blk_cell BK624.out 1).trans rfl, (blk_cell BK624.out 2).trans rfl, (blk_cell BK624.out 3).trans rfl, (blk_cell BK624.out 4).trans rfl⟩ (fun hHeld => ?_); refine with_tabW laws_FnDialback.tab16 laws_FnDialback.bits16 (fun HT_ HW_ => ?_)
          generalize w211.drew = w212 at HO_585002 HO_593002 HO_601002 HO_609002 HO_617002 HO_625002 HO684 BK584 BK592 BK600 BK608 BK616 BK624 BK687 HB hHeld ⊢
          refine zp 1 (some 165) zm75_17 HT_ ?_
          refine zp 2 (some 166) zm76_17 HT_ ?_
          refine zp 5 (some 169) zm77_17 HT_ ?_
          refine zp 6 (some 170) zm78_17 HT_ ?_
          refine zt 0 (some 164) zm79_17 HT_ HW_ hHeld ?_
          refine zt 4 (some 168) zm80_17 HT_ HW_ hHeld ?_
          refine one_ (i := 3) (N := some 167) zm81_17 rfl rfl (one_of HT_.out (by kernel_rfl)) (by decide) (fun K hK => ?_)
          refine goes_ Tryd.func14 (by kernel_rfl) rfl #[.agg #[.string t680, .int .i64 t681, .slice Ao207 t682.length co207], .string t685, .int .i64 t686] (by rfl) rfl rfl zb1_17 ?_
          with_reducible refine (impl_DbTrusts.calls kj167 t680 t681 _ _ t682 t685 t686 t688 _ ?side1 ?side2 A208.out zb4_17).mono ?_
          (case side1 => repeat ((exact (Kd.R_reads' HO684.out).2.2)))
          (case side2 => exact (Kd.R_reads' HO684.out).2.1)
          rintro e w213 ⟨rfl, hb⟩
          refine ⟨_, rfl, ?_⟩
          replace HO_585002 := Aside0.mk (Kd.R_below zb40_17 hb)
          replace HO_593002 := Aside0.mk (Kd.R_below zb41_17 hb)
          replace HO_601002 := Aside0.mk (Kd.R_below zb42_17 hb)
          replace HO_609002 := Aside0.mk (Kd.R_below zb43_17 hb)
          replace HO_617002 := Aside0.mk (Kd.R_below zb44_17 hb)
          replace HO_625002 := Aside0.mk (Kd.R_below zb45_17 hb)
          replace HO684 := Aside0.mk (Kd.R_below zb46_17 hb)
          replace BK584 := bkb BK584 hb
          replace BK592 := bkb BK592 hb
          replace BK600 := bkb BK600 hb
          replace BK608 := bkb BK608 hb
          replace BK616 := bkb BK616 hb
          replace BK624 := bkb BK624 hb
          replace BK687 := bkb BK687 hb
          replace HB := Aside0.mk (below_step zb48_17 hb)
          (try clear hb)
          refine hK.out _ _ zk1_17 (fun hHeld => ?_)
          clear hK K
          refine zn (some 167) ?_
          refine one_ (i := 7) (N := some 171) zm82_17 rfl rfl (one_of HT_.out (by kernel_rfl)) (by decide) (fun K hK => ?_)
          refine goes_ Tryd.func17 (by kernel_rfl) rfl #[.agg #[.string t680, .int .i64 t681, .slice Ao207 t682.length co207], .string t685, .int .i64 t686] (by rfl) rfl rfl zb1_17 ?_
          with_reducible refine (spec_DbTrusts.calls kj167 t680 t681 _ _ t682 t685 t686 t689 _ ?side1 ?side2 A209.out).mono ?_
          (case side1 => repeat ((exact (Kd.R_reads' HO684.out).2.2)))
          (case side2 => exact (Kd.R_reads' HO684.out).2.1)
          rintro e w214 ⟨rfl, hb⟩
          refine ⟨_, rfl, ?_⟩
          replace HO_585002 := Aside0.mk (Kd.R_below zb40_17 hb)
          replace HO_593002 := Aside0.mk (Kd.R_below zb41_17 hb)
          replace HO_601002 := Aside0.mk (Kd.R_below zb42_17 hb)
          replace HO_609002 := Aside0.mk (Kd.R_below zb43_17 hb)
          replace HO_617002 := Aside0.mk (Kd.R_below zb44_17 hb)
          replace HO_625002 := Aside0.mk (Kd.R_below zb45_17 hb)
          replace HO684 := Aside0.mk (Kd.R_below zb46_17 hb)
          replace BK584 := bkb BK584 hb
          replace BK592 := bkb BK592 hb
          replace BK600 := bkb BK600 hb
          replace BK608 := bkb BK608 hb
          replace BK616 := bkb BK616 hb
          replace BK624 := bkb BK624 hb
          replace BK687 := bkb BK687 hb
          replace HB := Aside0.mk (below_step zb48_17 hb)
          (try clear hb)
          refine hK.out _ _ zk1_17 (fun hHeld => ?_)
          clear hK K
          refine zn (some 171) ?_
          refine zp 8 (some 172) zm83_17 HT_ ?_
          refine zp 9 (some 173) zm84_17 HT_ ?_
          by_cases c210 : (t688 != t689) = true
          ·
           rw [if_pos c210] at H
           have c210b0 : (t688 != t689) = true := c210
           (try (have c210b1 : decide (t688 = t689) = false := by simpa using c210))
           (try (have c210b2 : (t688 == t689) = false := by simpa using c210))
           (try (have c210b3 : ¬ (t688 = t689) := by simpa using c210))
           clear c210
           have H' := Aside0.mk H
           clear H
           (try rw [c210b2])
           refine zu 10 (some 174) zm85_17 HT_ ?_
           refine zu 11 (some 175) zm86_17 HT_ ?_
           refine zu 12 (some 176) zm87_17 HT_ ?_
           refine zu 13 (some 177) zm88_17 HT_ ?_
           refine zu 14 (some 178) zm89_17 HT_ ?_
           refine zp 15 (some 179) zm90_17 HT_ ?_
           refine zp 16 (some 180) zm91_17 HT_ ?_
           refine zu 17 (some 181) zm92_17 HT_ ?_
           refine zu 18 (some 182) zm93_17 HT_ ?_
           refine zu 19 (some 183) zm94_17 HT_ ?_
           refine zp 20 (some 184) zm95_17 HT_ ?_
           refine done_ (done_of HT_.out (by kernel_rfl)) ?_
           try go_wp2
           go_meet
           case rel => exact ⟨_, (true), zb0_17, H', ⟨by have := HJ2.out; have := HJ11.out; have := HJ117.out; have := HJ167.out; omega⟩, ⟨by exact HO_585002.out⟩, ⟨by exact HO_593002.out⟩, ⟨by exact HO_601002.out⟩, ⟨by exact HO_609002.out⟩, ⟨by exact HO_617002.out⟩, ⟨by exact HO_625002.out⟩, ⟨by exact HO684.out⟩, ⟨by exact BK584.out⟩, ⟨by exact BK592.out⟩, ⟨by exact BK600.out⟩, ⟨by exact BK608.out⟩, ⟨by exact BK616.out⟩, ⟨by exact BK624.out⟩, ⟨by exact BK687.out⟩, ⟨by repeat ((with_reducible (exact HB.out)))⟩⟩
          rw [if_neg c210] at H
          have c210b0 : (t688 != t689) = false := by simpa using c210
          (try (have c210b1 : decide (t688 = t689) = true := by simpa using c210))
          (try (have c210b2 : (t688 == t689) = true := by simpa using c210))
          clear c210
          replace H := Option.bind_eq_some_iff.mp H
          obtain ⟨t690, A2150, H⟩ := H
          (try dsimp -simprocs only at H)
          have A215 := Aside0.mk A2150
          clear A2150
          replace H := Option.bind_eq_some_iff.mp H
          obtain ⟨t691, A2160, H⟩ := H
          (try dsimp -simprocs only at H)
          have A216 := Aside0.mk A2160
          clear A2160
          (try rw [c210b2])
          refine zt 10 (some 174) zm85_17 HT_ HW_ hHeld ?_
          refine zt 12 (some 176) zm96_17 HT_ HW_ hHeld ?_
          refine one_ (i := 11) (N := some 175) zm87_17 rfl rfl (one_of HT_.out (by kernel_rfl)) (by decide) (fun K hK => ?_)
          refine goes_ Tryd.func18 (by kernel_rfl) rfl #[.agg #[.string t680, .int .i64 t681, .slice Ao207 t682.length co207]] (by rfl) rfl rfl zb1_17 ?_
          with_reducible refine (impl_DialbackRight.calls kj167 t680 t681 _ _ t682 t690 _ ?side1 ?side2 A215.out zb4_17).mono ?_
          (case side1 => repeat ((exact (Kd.R_reads' HO684.out).2.2)))
          (case side2 => exact (Kd.R_reads' HO684.out).2.1)
          rintro e w222 ⟨rfl, hb⟩
          refine ⟨_, rfl, ?_⟩
          replace HO_585002 := Aside0.mk (Kd.R_below zb40_17 hb)
          replace HO_593002 := Aside0.mk (Kd.R_below zb41_17 hb)
          replace HO_601002 := Aside0.mk (Kd.R_below zb42_17 hb)
          replace HO_609002 := Aside0.mk (Kd.R_below zb43_17 hb)
          replace HO_617002 := Aside0.mk (Kd.R_below zb44_17 hb)
          replace HO_625002 := Aside0.mk (Kd.R_below zb45_17 hb)
          replace HO684 := Aside0.mk (Kd.R_below zb46_17 hb)
          replace BK584 := bkb BK584 hb
          replace BK592 := bkb BK592 hb
          replace BK600 := bkb BK600 hb
          replace BK608 := bkb BK608 hb
          replace BK616 := bkb BK616 hb
          replace BK624 := bkb BK624 hb
          replace BK687 := bkb BK687 hb
          replace HB := Aside0.mk (below_step zb48_17 hb)
          (try clear hb)
          refine hK.out _ _ zk1_17 (fun hHeld => ?_)
          clear hK K
          refine zn (some 175) ?_
          refine one_ (i := 13) (N := some 177) zm88_17 rfl rfl (one_of HT_.out (by kernel_rfl)) (by decide) (fun K hK => ?_)
          refine goes_ Tryd.func15 (by kernel_rfl) rfl #[.agg #[.string t680, .int .i64 t681, .slice Ao207 t682.length co207]] (by rfl) rfl rfl zb1_17 ?_
          with_reducible refine (spec_DialbackRight.calls kj167 t680 t681 _ _ t682 t691 _ ?side1 ?side2 A216.out).mono ?_
          (case side1 => repeat ((exact (Kd.R_reads' HO684.out).2.2)))
          (case side2 => exact (Kd.R_reads' HO684.out).2.1)
          rintro e w223 ⟨rfl, hb⟩
          refine ⟨_, rfl, ?_⟩
          replace HO_585002 := Aside0.mk (Kd.R_below zb40_17 hb)
          replace HO_593002 := Aside0.mk (Kd.R_below zb41_17 hb)
          replace HO_601002 := Aside0.mk (Kd.R_below zb42_17 hb)
          replace HO_609002 := Aside0.mk (Kd.R_below zb43_17 hb)
          replace HO_617002 := Aside0.mk (Kd.R_below zb44_17 hb)
          replace HO_625002 := Aside0.mk (Kd.R_below zb45_17 hb)
          replace HO684 := Aside0.mk (Kd.R_below zb46_17 hb)
          replace BK584 := bkb BK584 hb
          replace BK592 := bkb BK592 hb
          replace BK600 := bkb BK600 hb
          replace BK608 := bkb BK608 hb
          replace BK616 := bkb BK616 hb
          replace BK624 := bkb BK624 hb
          replace BK687 := bkb BK687 hb
          replace HB := Aside0.mk (below_step zb48_17 hb)
          (try clear hb)
          refine hK.out _ _ zk1_17 (fun hHeld => ?_)
          clear hK K
          refine zn (some 177) ?_
          refine zp 14 (some 178) zm89_17 HT_ ?_
          refine zp 15 (some 179) zm90_17 HT_ ?_
          refine zp 16 (some 180) zm91_17 HT_ ?_
          by_cases c217 : (t690 != t691) = true
          rotate_left
          ·
           rw [if_neg c217] at H
           have c217b0 : (t690 != t691) = false := by simpa using c217
           (try (have c217b1 : decide (t690 = t691) = true := by simpa using c217))
           (try (have c217b2 : (t690 == t691) = true := by simpa using c217))
           clear c217
           have H' := Aside0.mk H
           clear H
           (try rw [c217b2])
           refine zp 17 (some 181) zm92_17 HT_ ?_
           refine zt 18 (some 182) zm93_17 HT_ HW_ hHeld ?_
           refine zp 19 (some 183) zm94_17 HT_ ?_
           refine zp 20 (some 184) zm95_17 HT_ ?_
           refine done_ (done_of HT_.out (by kernel_rfl)) ?_
           try go_wp2
           go_meet
           case rel => exact ⟨_, ((t623 != 0)), zb0_17, H', ⟨by have := HJ2.out; have := HJ11.out; have := HJ117.out; have := HJ167.out; omega⟩, ⟨by exact HO_585002.out⟩, ⟨by exact HO_593002.out⟩, ⟨by exact HO_601002.out⟩, ⟨by exact HO_609002.out⟩, ⟨by exact HO_617002.out⟩, ⟨by exact HO_625002.out⟩, ⟨by exact HO684.out⟩, ⟨by exact BK584.out⟩, ⟨by exact BK592.out⟩, ⟨by exact BK600.out⟩, ⟨by exact BK608.out⟩, ⟨by exact BK616.out⟩, ⟨by exact BK624.out⟩, ⟨by exact BK687.out⟩, ⟨by repeat ((with_reducible (exact HB.out)))⟩⟩
          rw [if_pos c217] at H
          have c217b0 : (t690 != t691) = true := c217
          (try (have c217b1 : decide (t690 = t691) = false := by simpa using c217))
          (try (have c217b2 : (t690 == t691) = false := by simpa using c217))
          (try (have c217b3 : ¬ (t690 = t691) := by simpa using c217))
          clear c217
          have H' := Aside0.mk H
          clear H
          (try rw [c217b2])
          refine zu 17 (some 181) zm92_17 HT_ ?_
          refine zu 18 (some 182) zm93_17 HT_ ?_
          refine zu 19 (some 183) zm94_17 HT_ ?_
          refine zp 20 (some 184) zm95_17 HT_ ?_
          refine done_ (done_of HT_.out (by kernel_rfl)) ?_
          try go_wp2
          go_meet
          case rel => exact ⟨_, (true), zb0_17, H', ⟨by have := HJ2.out; have := HJ11.out; have := HJ117.out; have := HJ167.out; omega⟩, ⟨by exact HO_585002.out⟩, ⟨by exact HO_593002.out⟩, ⟨by exact HO_601002.out⟩, ⟨by exact HO_609002.out⟩, ⟨by exact HO_617002.out⟩, ⟨by exact HO_625002.out⟩, ⟨by exact HO684.out⟩, ⟨by exact BK584.out⟩, ⟨by exact BK592.out⟩, ⟨by exact BK600.out⟩, ⟨by exact BK608.out⟩, ⟨by exact BK616.out⟩, ⟨by exact BK624.out⟩, ⟨by exact BK687.out⟩, ⟨by repeat ((with_reducible (exact HB.out)))⟩⟩
         case rest => as_aux_lemma =>
          clear HC197
          obtain ⟨kq, x184_196, rfl, HA, HJ196, HO_585002, HO_593002, HO_601002, HO_609002, HO_617002, HO_625002, HO_688002, BK584, BK592, BK600, BK608, BK616, BK624, BK687, HB⟩ := hcut
          cases kq with
          | zero => exact absurd HA.out (by simp [laws_FnDialback.j4])
          | succ kj196 =>
           have H := HA.out
           clear HA
           simp only [laws_FnDialback.j4] at H
           by_cases c230 : x184_196 = true
           ·
            subst c230
            rw [if_pos rfl] at H
            replace H := Option.bind_eq_some_iff.mp H
            obtain ⟨t692, A2310, H⟩ := H
            (try dsimp -simprocs only at H)
            have A231 := Aside0.mk A2310
            clear A2310
            replace H := Option.bind_eq_some_iff.mp H
            obtain ⟨t693, A2320, H⟩ := H
            (try dsimp -simprocs only at H)
            have A232 := Aside0.mk A2320
            clear A2320
            by_cases c233 : (t692 == t693) = true
            rotate_left
            ·
             rw [if_neg c233] at H
             have c233b0 : (t692 == t693) = false := by simpa using c233
             (try (have c233b1 : decide (t692 = t693) = false := by simpa using c233))
             (try (have c233b2 : (t692 == t693) = false := by simpa using c233))
             (try (have c233b3 : ¬ (t692 = t693) := by simpa using c233))
             clear c233
             exact absurd ((Option.some.inj H).trans hrt.out) (by decide)
            rw [if_pos c233] at H
            have c233b0 : (t692 == t693) = true := c233
            (try (have c233b1 : decide (t692 = t693) = true := by simpa using c233))
            (try (have c233b2 : (t692 == t693) = true := by simpa using c233))
            clear c233
            replace H := Option.bind_eq_some_iff.mp H
            obtain ⟨t694, A2340, H⟩ := H
            (try dsimp -simprocs only at H)
            have A234 := Aside0.mk A2340
            clear A2340
            replace H := Option.bind_eq_some_iff.mp H
            obtain ⟨t695, A2350, H⟩ := H
            replace H : (some (t694 == t695)) = some r := H
            have A235 := Aside0.mk A2350
            clear A2350
            obtain rfl := Option.some.inj H
            try go_wp2
            replace HO_585002 := Aside0.mk (Kd.R_drew HO_585002.out)
            replace HO_593002 := Aside0.mk (Kd.R_drew HO_593002.out)
            replace HO_601002 := Aside0.mk (Kd.R_drew HO_601002.out)
            replace HO_609002 := Aside0.mk (Kd.R_drew HO_609002.out)
            replace HO_617002 := Aside0.mk (Kd.R_drew HO_617002.out)
            replace HO_625002 := Aside0.mk (Kd.R_drew HO_625002.out)
            replace HO_688002 := Aside0.mk (Kd.R_drew HO_688002.out)
            replace BK584 := Aside0.mk (blk_drew BK584.out)
            replace BK592 := Aside0.mk (blk_drew BK592.out)
            replace BK600 := Aside0.mk (blk_drew BK600.out)
            replace BK608 := Aside0.mk (blk_drew BK608.out)
            replace BK616 := Aside0.mk (blk_drew BK616.out)
            replace BK624 := Aside0.mk (blk_drew BK624.out)
            replace BK687 := Aside0.mk (blk_drew BK687.out)
            replace HB := Aside0.mk (below_drew1 HB.out)
            refine start_ (n := 17) (S := fun w' => w'.cell? ⟨gb687, 0, none⟩ = some (.string t680) ∧ w'.cell? ⟨gb687, 1, none⟩ = some (.int .i64 t681) ∧ w'.cell? ⟨gb687, 2, none⟩ = some (.slice Ao207 t682.length co207)) (ds := []) zm97_17 (by kernel_rfl) rfl rfl ⟨(blk_cell BK687.out 0).trans rfl, (blk_cell BK687.out 1).trans rfl, (blk_cell BK687.out 2).trans rfl⟩ (fun hHeld => ?_); refine with_tabW laws_FnDialback.tab17 laws_FnDialback.bits17 (fun HT_ HW_ => ?_)
            generalize wc.drew = w236 at HO_585002 HO_593002 HO_601002 HO_609002 HO_617002 HO_625002 HO_688002 BK584 BK592 BK600 BK608 BK616 BK624 BK687 HB hHeld ⊢
            refine zp 1 (some 186) zm98_17 HT_ ?_
            refine zp 2 (some 187) zm99_17 HT_ ?_
            refine zp 5 (some 190) zm100_17 HT_ ?_
            refine zp 6 (some 191) zm101_17 HT_ ?_
            refine zt 0 (some 185) zm102_17 HT_ HW_ hHeld ?_
            refine zt 4 (some 189) zm103_17 HT_ HW_ hHeld ?_
            refine one_ (i := 3) (N := some 188) zm104_17 rfl rfl (one_of HT_.out (by kernel_rfl)) (by decide) (fun K hK => ?_)
            refine goes_ Tryd.func14 (by kernel_rfl) rfl #[.agg #[.string t680, .int .i64 t681, .slice Ao207 t682.length co207], .string t685, .int .i64 t686] (by rfl) rfl rfl zb1_17 ?_
            with_reducible refine (impl_DbTrusts.calls kj196 t680 t681 _ _ t682 t685 t686 t692 _ ?side1 ?side2 A231.out zb4_17).mono ?_
            (case side1 => repeat ((exact (Kd.R_reads' HO_688002.out).2.2)))
            (case side2 => exact (Kd.R_reads' HO_688002.out).2.1)
            rintro e w237 ⟨rfl, hb⟩
            refine ⟨_, rfl, ?_⟩
            replace HO_688002 := Aside0.mk (Kd.R_below zb49_17 hb)
            replace BK687 := bkb BK687 hb
            replace HB := Aside0.mk (below_step zb48_17 hb)
            (try clear hb)
            refine hK.out _ _ zk2_17 (fun hHeld => ?_)
            clear hK K
            refine zn (some 188) ?_
            refine one_ (i := 7) (N := some 192) zm105_17 rfl rfl (one_of HT_.out (by kernel_rfl)) (by decide) (fun K hK => ?_)
            refine goes_ Tryd.func17 (by kernel_rfl) rfl #[.agg #[.string t680, .int .i64 t681, .slice Ao207 t682.length co207], .string t685, .int .i64 t686] (by rfl) rfl rfl zb1_17 ?_
            with_reducible refine (spec_DbTrusts.calls kj196 t680 t681 _ _ t682 t685 t686 t693 _ ?side1 ?side2 A232.out).mono ?_
            (case side1 => repeat ((exact (Kd.R_reads' HO_688002.out).2.2)))
            (case side2 => exact (Kd.R_reads' HO_688002.out).2.1)
            rintro e w238 ⟨rfl, hb⟩
            refine ⟨_, rfl, ?_⟩
            replace HO_688002 := Aside0.mk (Kd.R_below zb49_17 hb)
            replace BK687 := bkb BK687 hb
            replace HB := Aside0.mk (below_step zb48_17 hb)
            (try clear hb)
            refine hK.out _ _ zk2_17 (fun hHeld => ?_)
            clear hK K
            refine zn (some 192) ?_
            refine zp 8 (some 193) zm106_17 HT_ ?_
            refine zp 9 (some 194) zm107_17 HT_ ?_
            refine zt 10 (some 195) zm108_17 HT_ HW_ hHeld ?_
            refine zt 12 (some 197) zm109_17 HT_ HW_ hHeld ?_
            refine one_ (i := 11) (N := some 196) zm110_17 rfl rfl (one_of HT_.out (by kernel_rfl)) (by decide) (fun K hK => ?_)
            refine goes_ Tryd.func18 (by kernel_rfl) rfl #[.agg #[.string t680, .int .i64 t681, .slice Ao207 t682.length co207]] (by rfl) rfl rfl zb1_17 ?_
            with_reducible refine (impl_DialbackRight.calls kj196 t680 t681 _ _ t682 t694 _ ?side1 ?side2 A234.out zb4_17).mono ?_
            (case side1 => repeat ((exact (Kd.R_reads' HO_688002.out).2.2)))
            (case side2 => exact (Kd.R_reads' HO_688002.out).2.1)
            rintro e w239 ⟨rfl, hb⟩
            refine ⟨_, rfl, ?_⟩
            replace HO_688002 := Aside0.mk (Kd.R_below zb49_17 hb)
            replace BK687 := bkb BK687 hb
            replace HB := Aside0.mk (below_step zb48_17 hb)
            (try clear hb)
            refine hK.out _ _ zk2_17 (fun hHeld => ?_)
            clear hK K
            refine zn (some 196) ?_
            refine one_ (i := 13) (N := some 198) zm111_17 rfl rfl (one_of HT_.out (by kernel_rfl)) (by decide) (fun K hK => ?_)
            refine goes_ Tryd.func15 (by kernel_rfl) rfl #[.agg #[.string t680, .int .i64 t681, .slice Ao207 t682.length co207]] (by rfl) rfl rfl zb1_17 ?_
            with_reducible refine (spec_DialbackRight.calls kj196 t680 t681 _ _ t682 t695 _ ?side1 ?side2 A235.out).mono ?_
            (case side1 => repeat ((exact (Kd.R_reads' HO_688002.out).2.2)))
            (case side2 => exact (Kd.R_reads' HO_688002.out).2.1)
            rintro e w240 ⟨rfl, hb⟩
            refine ⟨_, rfl, ?_⟩
            replace BK687 := bkb BK687 hb
            replace HB := Aside0.mk (below_step zb48_17 hb)
            (try clear hb)
            refine hK.out _ _ zk2_17 (fun hHeld => ?_)
            clear hK K
            refine zn (some 198) ?_
            refine zp 14 (some 199) zm112_17 HT_ ?_
            refine zp 15 (some 200) zm113_17 HT_ ?_
            refine zp 16 (some 4) zm114_17 HT_ ?_
            refine done_ (done_of HT_.out (by kernel_rfl)) ?_
            try go_wp2
            go_ret
            exact ⟨by rfl, by repeat ((with_reducible (exact HB.out)))⟩
           replace c230 := Bool.eq_false_iff.mpr c230
           subst c230
           rw [if_neg (show ¬ (false = true) by decide)] at H
           have H' := Aside0.mk H
           clear H
           go_wp2
           go_loopg [19] kj196 (fun kq v19 w' => ∃ (x19_6 : Int), v19 = .int .i64 x19_6 ∧ Aside0 (laws_FnDialback.l0 kq t614 t615 x19_6 t617 t618 t619 t622 t623 = some r) ∧ Aside0 (kq ≤ kj196) ∧ Aside0 (Kd.R k43 43 w' w.heap.size (fun k_ => some k_ ≠ ((.slice Ao21 t587.length co21) : Value).ownBlock ∧ some k_ ≠ ((.slice Ao27 t595.length co27) : Value).ownBlock ∧ some k_ ≠ ((.slice Ao34 t603.length co34) : Value).ownBlock ∧ some k_ ≠ ((.slice Ao42 t611.length co42) : Value).ownBlock ∧ some k_ ≠ ((.slice Ao51 t619.length co51) : Value).ownBlock ∧ some k_ ≠ ((.slice Ao207 t682.length co207) : Value).ownBlock) (.slice Ao16 t580.length co16) t580) ∧ Aside0 (Kd.R k43 43 w' w.heap.size (fun k_ => some k_ ≠ ((.slice Ao16 t580.length co16) : Value).ownBlock ∧ some k_ ≠ ((.slice Ao27 t595.length co27) : Value).ownBlock ∧ some k_ ≠ ((.slice Ao34 t603.length co34) : Value).ownBlock ∧ some k_ ≠ ((.slice Ao42 t611.length co42) : Value).ownBlock ∧ some k_ ≠ ((.slice Ao51 t619.length co51) : Value).ownBlock ∧ some k_ ≠ ((.slice Ao207 t682.length co207) : Value).ownBlock) (.slice Ao21 t587.length co21) t587) ∧ Aside0 (Kd.R k43 43 w' w.heap.size (fun k_ => some k_ ≠ ((.slice Ao16 t580.length co16) : Value).ownBlock ∧ some k_ ≠ ((.slice Ao21 t587.length co21) : Value).ownBlock ∧ some k_ ≠ ((.slice Ao34 t603.length co34) : Value).ownBlock ∧ some k_ ≠ ((.slice Ao42 t611.length co42) : Value).ownBlock ∧ some k_ ≠ ((.slice Ao51 t619.length co51) : Value).ownBlock ∧ some k_ ≠ ((.slice Ao207 t682.length co207) : Value).ownBlock) (.slice Ao27 t595.length co27) t595) ∧ Aside0 (Kd.R k43 43 w' w.heap.size (fun k_ => some k_ ≠ ((.slice Ao16 t580.length co16) : Value).ownBlock ∧ some k_ ≠ ((.slice Ao21 t587.length co21) : Value).ownBlock ∧ some k_ ≠ ((.slice Ao27 t595.length co27) : Value).ownBlock ∧ some k_ ≠ ((.slice Ao42 t611.length co42) : Value).ownBlock ∧ some k_ ≠ ((.slice Ao51 t619.length co51) : Value).ownBlock ∧ some k_ ≠ ((.slice Ao207 t682.length co207) : Value).ownBlock) (.slice Ao34 t603.length co34) t603) ∧ Aside0 (Kd.R k43 43 w' w.heap.size (fun k_ => some k_ ≠ ((.slice Ao16 t580.length co16) : Value).ownBlock ∧ some k_ ≠ ((.slice Ao21 t587.length co21) : Value).ownBlock ∧ some k_ ≠ ((.slice Ao27 t595.length co27) : Value).ownBlock ∧ some k_ ≠ ((.slice Ao34 t603.length co34) : Value).ownBlock ∧ some k_ ≠ ((.slice Ao51 t619.length co51) : Value).ownBlock ∧ some k_ ≠ ((.slice Ao207 t682.length co207) : Value).ownBlock) (.slice Ao42 t611.length co42) t611) ∧ Aside0 (Kd.R k43 43 w' w.heap.size (fun k_ => some k_ ≠ ((.slice Ao16 t580.length co16) : Value).ownBlock ∧ some k_ ≠ ((.slice Ao21 t587.length co21) : Value).ownBlock ∧ some k_ ≠ ((.slice Ao27 t595.length co27) : Value).ownBlock ∧ some k_ ≠ ((.slice Ao34 t603.length co34) : Value).ownBlock ∧ some k_ ≠ ((.slice Ao42 t611.length co42) : Value).ownBlock ∧ some k_ ≠ ((.slice Ao207 t682.length co207) : Value).ownBlock) (.slice Ao51 t619.length co51) t619) ∧ Aside0 (Kd.R k43 43 w' w.heap.size (fun k_ => some k_ ≠ ((.slice Ao16 t580.length co16) : Value).ownBlock ∧ some k_ ≠ ((.slice Ao21 t587.length co21) : Value).ownBlock ∧ some k_ ≠ ((.slice Ao27 t595.length co27) : Value).ownBlock ∧ some k_ ≠ ((.slice Ao34 t603.length co34) : Value).ownBlock ∧ some k_ ≠ ((.slice Ao42 t611.length co42) : Value).ownBlock ∧ some k_ ≠ ((.slice Ao51 t619.length co51) : Value).ownBlock) (.slice Ao207 t682.length co207) t682) ∧ Aside0 (w'.heap[gb584]? = some (.cells #[.string t578, .int .i64 t579, (.slice Ao16 t580.length co16)] 25 (0, 0))) ∧ Aside0 (w'.heap[gb592]? = some (.cells #[.string t585, .int .i64 t586, (.slice Ao21 t587.length co21), .int .i64 t590, .int .i64 t591] 29 (0, 0))) ∧ Aside0 (w'.heap[gb600]? = some (.cells #[.string t593, .int .i64 t594, (.slice Ao27 t595.length co27)] 25 (0, 0))) ∧ Aside0 (w'.heap[gb608]? = some (.cells #[.string t601, .int .i64 t602, (.slice Ao34 t603.length co34), .int .i64 t606, .int .i64 t607] 29 (0, 0))) ∧ Aside0 (w'.heap[gb616]? = some (.cells #[.string t609, .int .i64 t610, (.slice Ao42 t611.length co42)] 25 (0, 0))) ∧ Aside0 (w'.heap[gb624]? = some (.cells #[.string t617, .int .i64 t618, (.slice Ao51 t619.length co51), .int .i64 t622, .int .i64 t623] 29 (0, 0))) ∧ Aside0 (w'.heap[gb687]? = some (.cells #[.string t680, .int .i64 t681, (.slice Ao207 t682.length co207)] 25 (0, 0))) ∧ Aside0 (Below w.heap.size w w'))
           case atStart => exact ⟨(0), zb0_17, H', ⟨Nat.le_refl _⟩, ⟨by exact HO_585002.out⟩, ⟨by exact HO_593002.out⟩, ⟨by exact HO_601002.out⟩, ⟨by exact HO_609002.out⟩, ⟨by exact HO_617002.out⟩, ⟨by exact HO_625002.out⟩, ⟨by exact HO_688002.out⟩, ⟨by exact BK584.out⟩, ⟨by exact BK592.out⟩, ⟨by exact BK600.out⟩, ⟨by exact BK608.out⟩, ⟨by exact BK616.out⟩, ⟨by exact BK624.out⟩, ⟨by exact BK687.out⟩, ⟨by repeat ((with_reducible (exact HB.out)))⟩⟩
           case round => as_aux_lemma =>
            clear H'
            obtain ⟨x19_6, rfl, HA, HK6, HO_585002, HO_593002, HO_601002, HO_609002, HO_617002, HO_625002, HO_688002, BK584, BK592, BK600, BK608, BK616, BK624, BK687, HB⟩ := hrel
            cases gk with
            | zero => exact absurd HA.out (by simp [laws_FnDialback.l0])
            | succ k6 =>
             have H := HA.out
             clear HA
             simp only [laws_FnDialback.l0] at H
             have hnb246 := NB624_584.out
             have hnc246 := NB584_624.out
             have hnb247 := NB624_592.out
             have hnc247 := NB592_624.out
             have hnb248 := NB624_600.out
             have hnc248 := NB600_624.out
             have hnb249 := NB624_608.out
             have hnc249 := NB608_624.out
             have hnb250 := NB624_616.out
             have hnc250 := NB616_624.out
             have hnb251 := NB624_687.out
             have hnc251 := NB687_624.out
             obtain ⟨z0, z1, z2, z3, z4, z5, z6, z7, z8, z9⟩ := bz5 BK624.out
             by_cases c241 : x19_6 < (t619.length : Int)
             rotate_left
             ·
              rw [if_neg c241] at H
              have c241b0 := decide_eq_false c241
              clear c241
              replace H := Option.bind_eq_some_iff.mp H
              obtain ⟨⟨t699, t700, t701, t704, t705⟩, A2800, H⟩ := H
              replace H : (some (t705 == 10)) = some r := H
              have A280 := Aside0.mk A2800
              clear A2800
              obtain rfl := Option.some.inj H
              go_wp2_with (((with_reducible refine gate_callee (f := 9) rfl ?_); refine goesL_ (some 233) rfl rfl Tryd.func9 (by kernel_rfl) rfl #[.agg #[.string t617, .int .i64 t618, .slice Ao51 t619.length co51], .int .i64 t614, .bool t615] rfl zb1_17 ?_; (with_reducible refine (impl_DbVerified.calls k6 t617 t618 _ _ t619 t614 t615 t699 t700 t701 t704 t705 _ ?side1 ?side2 A280.out zb4_17).mono ?_); (case side1 => repeat ((exact (Kd.R_reads' HO_625002.out).2.2))); (case side2 => exact (Kd.R_reads' HO_625002.out).2.1); rintro e w288 ⟨v702, rfl, ho0, hb⟩; refine ⟨_, rfl, ?_⟩; have HO703 := Aside0.mk (Kd.R_lower (Kd.R_new' (Kd.R_new' (Kd.R_new' (Kd.R_new' (Kd.R_new' (Kd.R_new' (Kd.R_new' ho0 (Kd.R_lt zb40_17)) (Kd.R_lt zb41_17)) (Kd.R_lt zb42_17)) (Kd.R_lt zb43_17)) (Kd.R_lt zb44_17)) (Kd.R_lt zb45_17)) (Kd.R_lt zb49_17)) (below_size zb48_17)); replace HO_585002 := Aside0.mk (Kd.R_elder' zb40_17 (Kd.R_base ho0) hb); replace HO_593002 := Aside0.mk (Kd.R_elder' zb41_17 (Kd.R_base ho0) hb); replace HO_601002 := Aside0.mk (Kd.R_elder' zb42_17 (Kd.R_base ho0) hb); replace HO_609002 := Aside0.mk (Kd.R_elder' zb43_17 (Kd.R_base ho0) hb); replace HO_617002 := Aside0.mk (Kd.R_elder' zb44_17 (Kd.R_base ho0) hb); replace HO_625002 := Aside0.mk (Kd.R_elder' zb45_17 (Kd.R_base ho0) hb); replace HO_688002 := Aside0.mk (Kd.R_elder' zb49_17 (Kd.R_base ho0) hb); replace HB := Aside0.mk (below_step zb48_17 hb); (try clear hb); (try clear ho0)))
              go_ret
              exact ⟨by rfl, by repeat ((with_reducible (exact HB.out)))⟩
             rw [if_pos c241] at H
             have c241b0 := decide_eq_true c241
             clear c241
             by_cases c242 : 0 ≤ x19_6
             rotate_left
             · rw [if_neg c242] at H; exact absurd H (by simp)
             rw [if_pos c242] at H
             have c242b0 := decide_eq_true c242
             clear c242
             have p696 : 0 ≤ (x19_6 : Int) := of_decide_eq_true zb50_17
             have q696 : x19_6 < (t619.length : Int) := of_decide_eq_true zb50_17
             obtain ⟨ad696, e696, hx696_0, hx696_1, hx696_2, hx696_3⟩ := at_T43 (Kd.R_reads' HO_625002.out).2.2 x19_6 p696 q696
             cases e696
             replace p696 := eq_true p696
             replace q696 := eq_true q696
             by_cases c243 : ((rd_T43 t619 x19_6).f1) = t614
             rotate_left
             ·
              rw [if_neg c243] at H
              have c243b0 : (((rd_T43 t619 x19_6).f1) == t614) = false := beq_eq_false_iff_ne.mpr c243
              have c243b1 : (((rd_T43 t619 x19_6).f1) != t614) = true := bne_iff_ne.mpr c243
              have H' := Aside0.mk H
              clear H
              go_wp2_with (((with_reducible refine gate_dst (N := 20) rfl ?_); (try (refine gate_guard (by rfl) ?_; dsimp only)); refine box_event ?hg (N := 20) ?hd (cs := #[.string (⟨#[]⟩ : ByteArray), .int .i64 0, .int .i64 0, .string (⟨#[]⟩ : ByteArray)]) (t := 43) ?hr ?_; (case hd => rfl); (case hg => rfl); (case hr => (go_simp; done)); intro gb697 hg w271 hbox hb; replace HO_585002 := Aside0.mk (Kd.R_below (Kd.R_elderB zb40_17 gb697 (Nat.le_of_eq hg.symm)) hb); replace HO_593002 := Aside0.mk (Kd.R_below (Kd.R_elderB zb41_17 gb697 (Nat.le_of_eq hg.symm)) hb); replace HO_601002 := Aside0.mk (Kd.R_below (Kd.R_elderB zb42_17 gb697 (Nat.le_of_eq hg.symm)) hb); replace HO_609002 := Aside0.mk (Kd.R_below (Kd.R_elderB zb43_17 gb697 (Nat.le_of_eq hg.symm)) hb); replace HO_617002 := Aside0.mk (Kd.R_below (Kd.R_elderB zb44_17 gb697 (Nat.le_of_eq hg.symm)) hb); replace HO_625002 := Aside0.mk (Kd.R_below (Kd.R_elderB zb45_17 gb697 (Nat.le_of_eq hg.symm)) hb); replace HO_688002 := Aside0.mk (Kd.R_below (Kd.R_elderB zb49_17 gb697 (Nat.le_of_eq hg.symm)) hb); have BK697 := Aside0.mk (hbox); have GW697 := Aside0.mk ((zb51_17 : w.heap.size ≤ gb697)); have GE697 := GW697; replace HB := Aside0.mk (below_step zb48_17 hb); have NB584_697 := Aside0.mk ((zb9_17 : gb584 ≠ gb697)); have NB697_584 := Aside0.mk ((zb10_17 : gb697 ≠ gb584)); replace BK584 := bkb BK584 hb; have NB592_697 := Aside0.mk ((zb14_17 : gb592 ≠ gb697)); have NB697_592 := Aside0.mk ((zb15_17 : gb697 ≠ gb592)); replace BK592 := bkb BK592 hb; have NB600_697 := Aside0.mk ((zb20_17 : gb600 ≠ gb697)); have NB697_600 := Aside0.mk ((zb21_17 : gb697 ≠ gb600)); replace BK600 := bkb BK600 hb; have NB608_697 := Aside0.mk ((zb25_17 : gb608 ≠ gb697)); have NB697_608 := Aside0.mk ((zb26_17 : gb697 ≠ gb608)); replace BK608 := bkb BK608 hb; have NB616_697 := Aside0.mk ((zb31_17 : gb616 ≠ gb697)); have NB697_616 := Aside0.mk ((zb32_17 : gb697 ≠ gb616)); replace BK616 := bkb BK616 hb; have NB624_697 := Aside0.mk ((by rw [hg]; exact Nat.ne_of_lt (blk_lt (g := gb624) (o := .cells #[.string t617, .int .i64 t618, .slice (some ad696) t619.length co51, .int .i64 t622, .int .i64 t623] 29 (0, 0)) zb34_17) : gb624 ≠ gb697)); have NB697_624 := Aside0.mk ((by rw [hg]; exact Nat.ne_of_gt (blk_lt (g := gb624) (o := .cells #[.string t617, .int .i64 t618, .slice (some ad696) t619.length co51, .int .i64 t622, .int .i64 t623] 29 (0, 0)) zb34_17) : gb697 ≠ gb624)); replace BK624 := bkb BK624 hb; have NB687_697 := Aside0.mk ((by rw [hg]; exact Nat.ne_of_lt (blk_lt (g := gb687) (o := .cells #[.string t680, .int .i64 t681, .slice Ao207 t682.length co207] 25 (0, 0)) zb47_17) : gb687 ≠ gb697)); have NB697_687 := Aside0.mk ((by rw [hg]; exact Nat.ne_of_gt (blk_lt (g := gb687) (o := .cells #[.string t680, .int .i64 t681, .slice Ao207 t682.length co207] 25 (0, 0)) zb47_17) : gb697 ≠ gb687)); replace BK687 := bkb BK687 hb; clear hb hbox hg; have hnb272 := NB697_584.out; have hnc272 := NB584_697.out; have hnb273 := NB697_592.out; have hnc273 := NB592_697.out; have hnb274 := NB697_600.out; have hnc274 := NB600_697.out; have hnb275 := NB697_608.out; have hnc275 := NB608_697.out; have hnb276 := NB697_616.out; have hnc276 := NB616_697.out; have hnb277 := NB697_624.out; have hnc277 := NB624_697.out; have hnb278 := NB697_687.out; have hnc278 := NB687_697.out; obtain ⟨z0, z1, z2, z3, z4, z5, z6, z7⟩ := bz4 BK697.out))
              go_roundg k6
              case measure => have := HJ2.out; have := HJ11.out; have := HJ117.out; have := HJ167.out; have := HJ196.out; have := HK6.out; omega
              case rel => exact ⟨(wrap64 (x19_6 + 1)), zb0_17, H', ⟨by have := HJ2.out; have := HJ11.out; have := HJ117.out; have := HJ167.out; have := HJ196.out; have := HK6.out; omega⟩, ⟨by exact Kd.R_mono (rfa (rfa (rfa (rfa (Kd.R_mono HO_585002.out (fun k_ hk => (⟨hk, hk.2⟩ : _ ∧ k_ ≠ gb697))) (fun _ h => h.2)) (fun _ h => h.2)) (fun _ h => h.2)) (fun _ h => h.2)) (fun _ hk => ⟨hk.1.1.1, ⟨hk.1.1.2.1, ⟨hk.1.1.2.2.1, ⟨hk.1.1.2.2.2.1, ⟨hk.1.1.2.2.2.2.1, hk.1.1.2.2.2.2.2⟩⟩⟩⟩⟩)⟩, ⟨by exact Kd.R_mono (rfa (rfa (rfa (rfa (Kd.R_mono HO_593002.out (fun k_ hk => (⟨hk, hk.2⟩ : _ ∧ k_ ≠ gb697))) (fun _ h => h.2)) (fun _ h => h.2)) (fun _ h => h.2)) (fun _ h => h.2)) (fun _ hk => ⟨hk.1.1.1, ⟨hk.1.1.2.1, ⟨hk.1.1.2.2.1, ⟨hk.1.1.2.2.2.1, ⟨hk.1.1.2.2.2.2.1, hk.1.1.2.2.2.2.2⟩⟩⟩⟩⟩)⟩, ⟨by exact Kd.R_mono (rfa (rfa (rfa (rfa (Kd.R_mono HO_601002.out (fun k_ hk => (⟨hk, hk.2⟩ : _ ∧ k_ ≠ gb697))) (fun _ h => h.2)) (fun _ h => h.2)) (fun _ h => h.2)) (fun _ h => h.2)) (fun _ hk => ⟨hk.1.1.1, ⟨hk.1.1.2.1, ⟨hk.1.1.2.2.1, ⟨hk.1.1.2.2.2.1, ⟨hk.1.1.2.2.2.2.1, hk.1.1.2.2.2.2.2⟩⟩⟩⟩⟩)⟩, ⟨by exact Kd.R_mono (rfa (rfa (rfa (rfa (Kd.R_mono HO_609002.out (fun k_ hk => (⟨hk, hk.2⟩ : _ ∧ k_ ≠ gb697))) (fun _ h => h.2)) (fun _ h => h.2)) (fun _ h => h.2)) (fun _ h => h.2)) (fun _ hk => ⟨hk.1.1.1, ⟨hk.1.1.2.1, ⟨hk.1.1.2.2.1, ⟨hk.1.1.2.2.2.1, ⟨hk.1.1.2.2.2.2.1, hk.1.1.2.2.2.2.2⟩⟩⟩⟩⟩)⟩, ⟨by exact Kd.R_mono (rfa (rfa (rfa (rfa (Kd.R_mono HO_617002.out (fun k_ hk => (⟨hk, hk.2⟩ : _ ∧ k_ ≠ gb697))) (fun _ h => h.2)) (fun _ h => h.2)) (fun _ h => h.2)) (fun _ h => h.2)) (fun _ hk => ⟨hk.1.1.1, ⟨hk.1.1.2.1, ⟨hk.1.1.2.2.1, ⟨hk.1.1.2.2.2.1, ⟨hk.1.1.2.2.2.2.1, hk.1.1.2.2.2.2.2⟩⟩⟩⟩⟩)⟩, ⟨by exact Kd.R_mono (rfa (rfa (rfa (rfa (Kd.R_mono HO_625002.out (fun k_ hk => (⟨hk, hk.2⟩ : _ ∧ k_ ≠ gb697))) (fun _ h => h.2)) (fun _ h => h.2)) (fun _ h => h.2)) (fun _ h => h.2)) (fun _ hk => ⟨hk.1.1.1, ⟨hk.1.1.2.1, ⟨hk.1.1.2.2.1, ⟨hk.1.1.2.2.2.1, ⟨hk.1.1.2.2.2.2.1, hk.1.1.2.2.2.2.2⟩⟩⟩⟩⟩)⟩, ⟨by exact Kd.R_mono (rfa (rfa (rfa (rfa (Kd.R_mono HO_688002.out (fun k_ hk => (⟨hk, hk.2⟩ : _ ∧ k_ ≠ gb697))) (fun _ h => h.2)) (fun _ h => h.2)) (fun _ h => h.2)) (fun _ h => h.2)) (fun _ hk => ⟨hk.1.1.1, ⟨hk.1.1.2.1, ⟨hk.1.1.2.2.1, ⟨hk.1.1.2.2.2.1, ⟨hk.1.1.2.2.2.2.1, hk.1.1.2.2.2.2.2⟩⟩⟩⟩⟩)⟩, ⟨by refine blk_far ?_ NB584_697.out _; refine blk_far ?_ NB584_697.out _; refine blk_far ?_ NB584_697.out _; refine blk_far ?_ NB584_697.out _; exact BK584.out⟩, ⟨by refine blk_far ?_ NB592_697.out _; refine blk_far ?_ NB592_697.out _; refine blk_far ?_ NB592_697.out _; refine blk_far ?_ NB592_697.out _; exact BK592.out⟩, ⟨by refine blk_far ?_ NB600_697.out _; refine blk_far ?_ NB600_697.out _; refine blk_far ?_ NB600_697.out _; refine blk_far ?_ NB600_697.out _; exact BK600.out⟩, ⟨by refine blk_far ?_ NB608_697.out _; refine blk_far ?_ NB608_697.out _; refine blk_far ?_ NB608_697.out _; refine blk_far ?_ NB608_697.out _; exact BK608.out⟩, ⟨by refine blk_far ?_ NB616_697.out _; refine blk_far ?_ NB616_697.out _; refine blk_far ?_ NB616_697.out _; refine blk_far ?_ NB616_697.out _; exact BK616.out⟩, ⟨by refine blk_far ?_ NB624_697.out _; refine blk_far ?_ NB624_697.out _; refine blk_far ?_ NB624_697.out _; refine blk_far ?_ NB624_697.out _; exact BK624.out⟩, ⟨by refine blk_far ?_ NB687_697.out _; refine blk_far ?_ NB687_697.out _; refine blk_far ?_ NB687_697.out _; refine blk_far ?_ NB687_697.out _; exact BK687.out⟩, ⟨by repeat ((with_reducible first | exact HB.out | refine below_set ?_ GE697.out))⟩⟩
             rw [if_pos c243] at H
             have c243b0 : (((rd_T43 t619 x19_6).f1) == t614) = true := beq_iff_eq.mpr c243
             have c243b1 : (((rd_T43 t619 x19_6).f1) != t614) = false := bne_eq_false_iff_eq.mpr c243
             clear c243
             replace H := Option.bind_eq_some_iff.mp H
             obtain ⟨t698, A2440, H⟩ := H
             (try dsimp -simprocs only at H)
             have A244 := Aside0.mk A2440
             clear A2440
             by_cases c245 : (t698 != t615) = true
             ·
              rw [if_pos c245] at H
              have c245b0 : (t698 != t615) = true := c245
              (try (have c245b1 : decide (t698 = t615) = false := by simpa using c245))
              (try (have c245b2 : (t698 == t615) = false := by simpa using c245))
              (try (have c245b3 : ¬ (t698 = t615) := by simpa using c245))
              clear c245
              exact absurd ((Option.some.inj H).trans hrt.out) (by decide)
             rw [if_neg c245] at H
             have c245b0 : (t698 != t615) = false := by simpa using c245
             (try (have c245b1 : decide (t698 = t615) = true := by simpa using c245))
             (try (have c245b2 : (t698 == t615) = true := by simpa using c245))
             clear c245
             have H' := Aside0.mk H
             clear H
             go_wp2_with (first | ((with_reducible refine gate_dst (N := 20) rfl ?_); (try (refine gate_guard (by rfl) ?_; dsimp only)); refine box_event ?hg (N := 20) ?hd (cs := #[.string (⟨#[]⟩ : ByteArray), .int .i64 0, .int .i64 0, .string (⟨#[]⟩ : ByteArray)]) (t := 43) ?hr ?_; (case hd => rfl); (case hg => rfl); (case hr => (go_simp; done)); intro gb697 hg w253 hbox hb; replace HO_585002 := Aside0.mk (Kd.R_below (Kd.R_elderB zb40_17 gb697 (Nat.le_of_eq hg.symm)) hb); replace HO_593002 := Aside0.mk (Kd.R_below (Kd.R_elderB zb41_17 gb697 (Nat.le_of_eq hg.symm)) hb); replace HO_601002 := Aside0.mk (Kd.R_below (Kd.R_elderB zb42_17 gb697 (Nat.le_of_eq hg.symm)) hb); replace HO_609002 := Aside0.mk (Kd.R_below (Kd.R_elderB zb43_17 gb697 (Nat.le_of_eq hg.symm)) hb); replace HO_617002 := Aside0.mk (Kd.R_below (Kd.R_elderB zb44_17 gb697 (Nat.le_of_eq hg.symm)) hb); replace HO_625002 := Aside0.mk (Kd.R_below (Kd.R_elderB zb45_17 gb697 (Nat.le_of_eq hg.symm)) hb); replace HO_688002 := Aside0.mk (Kd.R_below (Kd.R_elderB zb49_17 gb697 (Nat.le_of_eq hg.symm)) hb); have BK697 := Aside0.mk (hbox); have GW697 := Aside0.mk ((zb51_17 : w.heap.size ≤ gb697)); have GE697 := GW697; replace HB := Aside0.mk (below_step zb48_17 hb); have NB584_697 := Aside0.mk ((zb9_17 : gb584 ≠ gb697)); have NB697_584 := Aside0.mk ((zb10_17 : gb697 ≠ gb584)); replace BK584 := bkb BK584 hb; have NB592_697 := Aside0.mk ((zb14_17 : gb592 ≠ gb697)); have NB697_592 := Aside0.mk ((zb15_17 : gb697 ≠ gb592)); replace BK592 := bkb BK592 hb; have NB600_697 := Aside0.mk ((zb20_17 : gb600 ≠ gb697)); have NB697_600 := Aside0.mk ((zb21_17 : gb697 ≠ gb600)); replace BK600 := bkb BK600 hb; have NB608_697 := Aside0.mk ((zb25_17 : gb608 ≠ gb697)); have NB697_608 := Aside0.mk ((zb26_17 : gb697 ≠ gb608)); replace BK608 := bkb BK608 hb; have NB616_697 := Aside0.mk ((zb31_17 : gb616 ≠ gb697)); have NB697_616 := Aside0.mk ((zb32_17 : gb697 ≠ gb616)); replace BK616 := bkb BK616 hb; have NB624_697 := Aside0.mk ((by rw [hg]; exact Nat.ne_of_lt (blk_lt (g := gb624) (o := .cells #[.string t617, .int .i64 t618, .slice (some ad696) t619.length co51, .int .i64 t622, .int .i64 t623] 29 (0, 0)) zb34_17) : gb624 ≠ gb697)); have NB697_624 := Aside0.mk ((by rw [hg]; exact Nat.ne_of_gt (blk_lt (g := gb624) (o := .cells #[.string t617, .int .i64 t618, .slice (some ad696) t619.length co51, .int .i64 t622, .int .i64 t623] 29 (0, 0)) zb34_17) : gb697 ≠ gb624)); replace BK624 := bkb BK624 hb; have NB687_697 := Aside0.mk ((by rw [hg]; exact Nat.ne_of_lt (blk_lt (g := gb687) (o := .cells #[.string t680, .int .i64 t681, .slice Ao207 t682.length co207] 25 (0, 0)) zb47_17) : gb687 ≠ gb697)); have NB697_687 := Aside0.mk ((by rw [hg]; exact Nat.ne_of_gt (blk_lt (g := gb687) (o := .cells #[.string t680, .int .i64 t681, .slice Ao207 t682.length co207] 25 (0, 0)) zb47_17) : gb697 ≠ gb687)); replace BK687 := bkb BK687 hb; clear hb hbox hg; have hnb254 := NB697_584.out; have hnc254 := NB584_697.out; have hnb255 := NB697_592.out; have hnc255 := NB592_697.out; have hnb256 := NB697_600.out; have hnc256 := NB600_697.out; have hnb257 := NB697_608.out; have hnc257 := NB608_697.out; have hnb258 := NB697_616.out; have hnc258 := NB616_697.out; have hnb259 := NB697_624.out; have hnc259 := NB624_697.out; have hnb260 := NB697_687.out; have hnc260 := NB687_697.out; obtain ⟨z0, z1, z2, z3, z4, z5, z6, z7⟩ := bz4 BK697.out; obtain ⟨z0, z1, z2, z3, z4, z5, z6, z7, z8, z9⟩ := bz5 BK624.out) | (go_at_call 14; (with_reducible refine (impl_DbTrusts.calls k6 t617 t618 _ _ t619 ((rd_T43 t619 x19_6).f0) t614 t698 _ ?side1 ?side2 A244.out zb4_17).mono ?_); (case side1 => refine (Kd.R_reads' (e := 43) (base := w.heap.size) (ok := fun k_ => ((some k_ ≠ (.slice Ao16 t580.length co16 : Value).ownBlock ∧ (some k_ ≠ (.slice Ao21 t587.length co21 : Value).ownBlock ∧ (some k_ ≠ (.slice Ao27 t595.length co27 : Value).ownBlock ∧ (some k_ ≠ (.slice Ao34 t603.length co34 : Value).ownBlock ∧ (some k_ ≠ (.slice Ao42 t611.length co42 : Value).ownBlock ∧ some k_ ≠ (.slice Ao207 t682.length co207 : Value).ownBlock))))) ∧ k_ ≠ gb697)) (n := t619.length) (c := co51) ?_).2.2; exact (by exact (Kd.R_mono (rfa (rfa (rfa (rfa (Kd.R_mono HO_625002.out (fun k_ hk => (⟨hk, hk.2⟩ : _ ∧ k_ ≠ gb697))) (fun _ h => h.2)) (fun _ h => h.2)) (fun _ h => h.2)) (fun _ h => h.2)) (fun _ h_ => h_.1)))); (case side2 => exact (Kd.R_reads' HO_625002.out).2.1); rintro e w263 ⟨rfl, hb⟩; replace HO_585002 := Aside0.mk (Kd.R_below (by exact (Kd.R_mono (rfa (rfa (rfa (rfa (Kd.R_mono HO_585002.out (fun k_ hk => (⟨hk, hk.2⟩ : _ ∧ k_ ≠ gb697))) (fun _ h => h.2)) (fun _ h => h.2)) (fun _ h => h.2)) (fun _ h => h.2)) (fun _ h_ => h_.1))) hb); replace HO_593002 := Aside0.mk (Kd.R_below (by exact (Kd.R_mono (rfa (rfa (rfa (rfa (Kd.R_mono HO_593002.out (fun k_ hk => (⟨hk, hk.2⟩ : _ ∧ k_ ≠ gb697))) (fun _ h => h.2)) (fun _ h => h.2)) (fun _ h => h.2)) (fun _ h => h.2)) (fun _ h_ => h_.1))) hb); replace HO_601002 := Aside0.mk (Kd.R_below (by exact (Kd.R_mono (rfa (rfa (rfa (rfa (Kd.R_mono HO_601002.out (fun k_ hk => (⟨hk, hk.2⟩ : _ ∧ k_ ≠ gb697))) (fun _ h => h.2)) (fun _ h => h.2)) (fun _ h => h.2)) (fun _ h => h.2)) (fun _ h_ => h_.1))) hb); replace HO_609002 := Aside0.mk (Kd.R_below (by exact (Kd.R_mono (rfa (rfa (rfa (rfa (Kd.R_mono HO_609002.out (fun k_ hk => (⟨hk, hk.2⟩ : _ ∧ k_ ≠ gb697))) (fun _ h => h.2)) (fun _ h => h.2)) (fun _ h => h.2)) (fun _ h => h.2)) (fun _ h_ => h_.1))) hb); replace HO_617002 := Aside0.mk (Kd.R_below (by exact (Kd.R_mono (rfa (rfa (rfa (rfa (Kd.R_mono HO_617002.out (fun k_ hk => (⟨hk, hk.2⟩ : _ ∧ k_ ≠ gb697))) (fun _ h => h.2)) (fun _ h => h.2)) (fun _ h => h.2)) (fun _ h => h.2)) (fun _ h_ => h_.1))) hb); replace HO_625002 := Aside0.mk (Kd.R_below (by exact (Kd.R_mono (rfa (rfa (rfa (rfa (Kd.R_mono HO_625002.out (fun k_ hk => (⟨hk, hk.2⟩ : _ ∧ k_ ≠ gb697))) (fun _ h => h.2)) (fun _ h => h.2)) (fun _ h => h.2)) (fun _ h => h.2)) (fun _ h_ => h_.1))) hb); replace HO_688002 := Aside0.mk (Kd.R_below (by exact (Kd.R_mono (rfa (rfa (rfa (rfa (Kd.R_mono HO_688002.out (fun k_ hk => (⟨hk, hk.2⟩ : _ ∧ k_ ≠ gb697))) (fun _ h => h.2)) (fun _ h => h.2)) (fun _ h => h.2)) (fun _ h => h.2)) (fun _ h_ => h_.1))) hb); replace BK584 := Aside0.mk (blk_below (g := gb584) (o := .cells #[.string t578, .int .i64 t579, .slice Ao16 t580.length co16] 25 (0, 0)) (by refine blk_far ?_ NB584_697.out _; refine blk_far ?_ NB584_697.out _; refine blk_far ?_ NB584_697.out _; refine blk_far ?_ NB584_697.out _; exact BK584.out) hb); replace BK592 := Aside0.mk (blk_below (g := gb592) (o := .cells #[.string t585, .int .i64 t586, .slice Ao21 t587.length co21, .int .i64 t590, .int .i64 t591] 29 (0, 0)) (by refine blk_far ?_ NB592_697.out _; refine blk_far ?_ NB592_697.out _; refine blk_far ?_ NB592_697.out _; refine blk_far ?_ NB592_697.out _; exact BK592.out) hb); replace BK600 := Aside0.mk (blk_below (g := gb600) (o := .cells #[.string t593, .int .i64 t594, .slice Ao27 t595.length co27] 25 (0, 0)) (by refine blk_far ?_ NB600_697.out _; refine blk_far ?_ NB600_697.out _; refine blk_far ?_ NB600_697.out _; refine blk_far ?_ NB600_697.out _; exact BK600.out) hb); replace BK608 := Aside0.mk (blk_below (g := gb608) (o := .cells #[.string t601, .int .i64 t602, .slice Ao34 t603.length co34, .int .i64 t606, .int .i64 t607] 29 (0, 0)) (by refine blk_far ?_ NB608_697.out _; refine blk_far ?_ NB608_697.out _; refine blk_far ?_ NB608_697.out _; refine blk_far ?_ NB608_697.out _; exact BK608.out) hb); replace BK616 := Aside0.mk (blk_below (g := gb616) (o := .cells #[.string t609, .int .i64 t610, .slice Ao42 t611.length co42] 25 (0, 0)) (by refine blk_far ?_ NB616_697.out _; refine blk_far ?_ NB616_697.out _; refine blk_far ?_ NB616_697.out _; refine blk_far ?_ NB616_697.out _; exact BK616.out) hb); replace BK624 := Aside0.mk (blk_below (g := gb624) (o := .cells #[.string t617, .int .i64 t618, .slice (some ad696) t619.length co51, .int .i64 t622, .int .i64 t623] 29 (0, 0)) (by refine blk_far ?_ NB624_697.out _; refine blk_far ?_ NB624_697.out _; refine blk_far ?_ NB624_697.out _; refine blk_far ?_ NB624_697.out _; exact BK624.out) hb); replace BK687 := Aside0.mk (blk_below (g := gb687) (o := .cells #[.string t680, .int .i64 t681, .slice Ao207 t682.length co207] 25 (0, 0)) (by refine blk_far ?_ NB687_697.out _; refine blk_far ?_ NB687_697.out _; refine blk_far ?_ NB687_697.out _; refine blk_far ?_ NB687_697.out _; exact BK687.out) hb); replace BK697 := Aside0.mk (blk_below (g := gb697) (o := .cells #[.string ((rd_T43 t619 x19_6).f0), .int .i64 ((rd_T43 t619 x19_6).f1), .int .i64 ((rd_T43 t619 x19_6).f2), .string ((rd_T43 t619 x19_6).f3)] 43 (0, 0)) (by apply bp4; exact BK697.out) hb); replace HB := Aside0.mk (below_step (by repeat ((with_reducible first | exact HB.out | refine below_set ?_ GE697.out))) hb); (try clear hb)))
             go_roundg k6
             case measure => have := HJ2.out; have := HJ11.out; have := HJ117.out; have := HJ167.out; have := HJ196.out; have := HK6.out; omega
             case rel => exact ⟨(wrap64 (x19_6 + 1)), zb0_17, H', ⟨by have := HJ2.out; have := HJ11.out; have := HJ117.out; have := HJ167.out; have := HJ196.out; have := HK6.out; omega⟩, ⟨by exact Kd.R_mono HO_585002.out (fun _ hk => ⟨hk.1.1, ⟨hk.1.2.1, ⟨hk.1.2.2.1, ⟨hk.1.2.2.2.1, ⟨hk.1.2.2.2.2.1, hk.1.2.2.2.2.2⟩⟩⟩⟩⟩)⟩, ⟨by exact Kd.R_mono HO_593002.out (fun _ hk => ⟨hk.1.1, ⟨hk.1.2.1, ⟨hk.1.2.2.1, ⟨hk.1.2.2.2.1, ⟨hk.1.2.2.2.2.1, hk.1.2.2.2.2.2⟩⟩⟩⟩⟩)⟩, ⟨by exact Kd.R_mono HO_601002.out (fun _ hk => ⟨hk.1.1, ⟨hk.1.2.1, ⟨hk.1.2.2.1, ⟨hk.1.2.2.2.1, ⟨hk.1.2.2.2.2.1, hk.1.2.2.2.2.2⟩⟩⟩⟩⟩)⟩, ⟨by exact Kd.R_mono HO_609002.out (fun _ hk => ⟨hk.1.1, ⟨hk.1.2.1, ⟨hk.1.2.2.1, ⟨hk.1.2.2.2.1, ⟨hk.1.2.2.2.2.1, hk.1.2.2.2.2.2⟩⟩⟩⟩⟩)⟩, ⟨by exact Kd.R_mono HO_617002.out (fun _ hk => ⟨hk.1.1, ⟨hk.1.2.1, ⟨hk.1.2.2.1, ⟨hk.1.2.2.2.1, ⟨hk.1.2.2.2.2.1, hk.1.2.2.2.2.2⟩⟩⟩⟩⟩)⟩, ⟨by exact Kd.R_mono HO_625002.out (fun _ hk => ⟨hk.1.1, ⟨hk.1.2.1, ⟨hk.1.2.2.1, ⟨hk.1.2.2.2.1, ⟨hk.1.2.2.2.2.1, hk.1.2.2.2.2.2⟩⟩⟩⟩⟩)⟩, ⟨by exact Kd.R_mono HO_688002.out (fun _ hk => ⟨hk.1.1, ⟨hk.1.2.1, ⟨hk.1.2.2.1, ⟨hk.1.2.2.2.1, ⟨hk.1.2.2.2.2.1, hk.1.2.2.2.2.2⟩⟩⟩⟩⟩)⟩, ⟨by exact BK584.out⟩, ⟨by exact BK592.out⟩, ⟨by exact BK600.out⟩, ⟨by exact BK608.out⟩, ⟨by exact BK616.out⟩, ⟨by exact BK624.out⟩, ⟨by exact BK687.out⟩, ⟨by repeat ((with_reducible (exact HB.out)))⟩⟩
/-- THE ONE PURE STATEMENT of laws_FnDialback: yours. -/
def laws_FnDialback.Pure : Prop := ∀ (l0 : List Int) (l1 : List Int), l0.length ≤ maxLen → l0.length * 1 ≤ 140737488351232 → (∀ x ∈ l0, (Lit.int .u8 x).wf = true) → l1.length ≤ maxLen → l1.length * 1 ≤ 140737488351232 → (∀ x ∈ l1, (Lit.int .u8 x).wf = true) → ∃ k, laws_FnDialback.f k l0 l1 = some true
theorem laws_FnDialback.walk (P : laws_FnDialback.Pure) (a0 : Option Addr) (len0 cap0 : Nat) (z0 : List Int) (a1 : Option Addr) (len1 cap1 : Nat) (z1 : List Int) (w : World) (w0 : (a0 = none ∧ len0 = 0 ∧ cap0 = 0 ∧ z0 = []) ∨ ∃ x, a0 = some x ∧ len0 ≤ cap0 ∧ cap0 ≤ maxLen ∧ z0.length = cap0 ∧ (∀ i, i < z0.length → w.cell? (x.add i) = some (.int .u8 (z0.getD i 0))) ∧ ∀ n ∈ z0, (Lit.int .u8 n).wf = true) (y0 : len0 * 1 ≤ 140737488351232) (w1 : (a1 = none ∧ len1 = 0 ∧ cap1 = 0 ∧ z1 = []) ∨ ∃ x, a1 = some x ∧ len1 ≤ cap1 ∧ cap1 ≤ maxLen ∧ z1.length = cap1 ∧ (∀ i, i < z1.length → w.cell? (x.add i) = some (.int .u8 (z1.getD i 0))) ∧ ∀ n ∈ z1, (Lit.int .u8 n).wf = true) (y1 : len1 * 1 ≤ 140737488351232) (hmx : MaxIs w) :
  Calls Tryd.prog 3 #[.slice a0 len0 cap0, .slice a1 len1 cap1] w fun e w' => e = .returned (.bool true) ∧ Below w.heap.size w w' := by
 obtain ⟨l0, rfl, hr0, hm0, hw0, hc0⟩ := ReadsInt.ofRowC w0
 obtain ⟨l1, rfl, hr1, hm1, hw1, hc1⟩ := ReadsInt.ofRowC w1
 obtain ⟨k, h⟩ := P l0 l1 hm0 y0 hw0 hm1 y1 hw1
 refine (laws_FnDialback.calls k _ _ l0 _ _ l1 true w (Kd.C_of_reads (d := (0 : Int)) (h1 := fun _ => rfl) hr0) hc0 (Kd.C_of_reads (d := (0 : Int)) (h1 := fun _ => rfl) hr1) hc1 h rfl (by (exact hmx))).mono ?_
 rintro e w' ⟨rfl, hd⟩
 exact ⟨rfl, hd⟩

end Go.Proofs.YtfijkimkdccioaaDoor.QFnDialback
