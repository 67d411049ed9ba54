/- What the library's search and its numerals read: a number at the first variable (bytealg.MaxLen), and the powers of ten. -/
import Derived.Test.YtjchggdekbnmnaaDoorProg
import Derived.Test.YtjchggdekbnmnaaDoorShelfP
import Derived.Test.YtjchggdekbnmnaaDoorShelfHP
import Derived.Below
import Derived.Lib.LaidTab
import Derived.Lib.SmallJoins
import Derived.Lib.ItoaNum
namespace Go.Proofs
open Go Go.RowKit
/-- The first variable (bytealg.MaxLen) holds some number, and the table of the powers of ten lies as it was laid. -/
def MaxIs (w : World) : Prop := (∃ m : Int, w.cell? ⟨0, 0, none⟩ = some (.int .i64 m)) ∧ Lib.TabIs Tryd.prog w "internal/strconv.uint64pow10" .u64 Lib.pow10Tab
theorem MaxIs.num {w : World} (h : MaxIs w) : ∃ m : Int, w.cell? ⟨0, 0, none⟩ = some (.int .i64 m) := h.1
theorem MaxIs.tab {w : World} (h : MaxIs w) : Lib.TabIs Tryd.prog w "internal/strconv.uint64pow10" .u64 Lib.pow10Tab := h.2
theorem tab_named : Tryd.prog.globalNamed "internal/strconv.uint64pow10" = some 1 := by kernel_rfl
theorem MaxIs.below {w w' : World} (h : MaxIs w) (hb : Below w.heap.size w w') : MaxIs w' := by
  obtain ⟨⟨m, hm⟩, ht⟩ := h
  have h0 : 0 < w.heap.size := by
    rcases Nat.eq_zero_or_pos w.heap.size with h | h
    · exfalso
      have he : w.heap[0]? = none := Array.getElem?_eq_none (by omega)
      simp [World.cell?, he] at hm
    · exact h
  exact ⟨⟨m, by rw [hb.cell h0]; exact hm⟩, Go.Joins.tab_stays tab_named ht hb (Nat.le_refl _)⟩
theorem MaxIs.made {w : World} (h : w.ShapedOpen Tryd.prog) (ht : Lib.TabIs Tryd.prog w "internal/strconv.uint64pow10" .u64 Lib.pow10Tab) : MaxIs w := ⟨Tryd.laysM144.s1_3 w h, ht⟩
/-- The table stands third on the list. -/
theorem tab_third {P : Program} {W : World} {name n1 n2 : String} {d1 d2 : DataW Unit} {k : IntKind} {zs : List Int} {rest : List (String × DataW Unit)} {g : Nat} {t e : TypeId} {n : Nat}
    (hg : P.globalNamed name = some g) (hty : (P.globals[g]?).map (·.type) = some t) (ht : P.underlying t = some (.array n e)) (he : P.underlying e = some (.int k)) (hce : P.cellsOf e = 1) (hct : P.cellsOf t = n)
    (h : laidMet P ((n1, d1) :: (n2, d2) :: (name, Lib.tabData k zs) :: rest) W) : Lib.TabIs P W name k zs := by
  obtain ⟨_, ⟨_, _, _, _, _, _, _, _, _, _, ⟨_, _, _, _, _, _, _, _, _, _, h, _⟩, _⟩, _⟩ := h
  obtain ⟨g', t', cs, fuel, p, q, hg', ht', hvar, hd, _, _⟩ := h
  obtain rfl := Option.some.inj (hg.symm.trans hg')
  obtain rfl := Option.some.inj (hty.symm.trans ht')
  unfold Lib.TabIs
  rw [hvar, ← Lib.cells_of_tab ht he hce hct hd]
end Go.Proofs
