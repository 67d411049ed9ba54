/- What the library's search reads: a number at the first variable (bytealg.MaxLen). -/
import Derived.Test.YtfijkimkdccioaaDoorProg
import Derived.Test.YtfijkimkdccioaaDoorShelfP
import Derived.Below
namespace Go.Proofs
open Go Go.RowKit
/-- The first variable (bytealg.MaxLen) holds some number. -/
def MaxIs (w : World) : Prop := ∃ m : Int, w.cell? ⟨0, 0, none⟩ = some (.int .i64 m)
theorem MaxIs.num {w : World} (h : MaxIs w) : ∃ m : Int, w.cell? ⟨0, 0, none⟩ = some (.int .i64 m) := h
theorem MaxIs.below {w w' : World} (h : MaxIs w) (hb : Below w.heap.size w w') : MaxIs w' := by
  obtain ⟨m, hm⟩ := h
  have h0 : 0 < w.heap.size := by
    rcases Nat.eq_zero_or_pos w.heap.size with h | h
    · exfalso
      have he : w.heap[0]? = none := Array.getElem?_eq_none (by omega)
      simp [World.cell?, he] at hm
    · exact h
  exact ⟨m, by rw [hb.cell h0]; exact hm⟩
theorem MaxIs.shaped {w : World} (h : w.ShapedOpen Tryd.prog) : MaxIs w := Tryd.laysM144.s1_3 w h
end Go.Proofs
