/- An argument that is a head (a struct of two texts and a number): what it holds when the call begins. -/
import Derived.Test.YtjchggdekbnmnaaDoorRows
import Derived.WalkKit
import Derived.ProofKit
import Derived.OpenShut
import Derived.Lib.SmallJoins
namespace Go.Proofs.YtjchggdekbnmnaaDoor
open Go.Joins Go.ChangeShapes Go.WideShapes Go.RowKit

set_option maxRecDepth 100000 in
theorem head_open {H : Type} {enc : TypeId × Value → H} {w : World} {spare : Nat → Bool} {held : Bool} {base b0 : Nat} {r : Reach} {v : Value} {d : DataW H} {p : List MemPlace}
    (hv : Value.okWide Tryd.prog w r b0 23 v) (h : DataW.Trod enc Tryd.prog w base spare held 23 v d p) :
    ∃ (a b : ByteArray) (i : Int), v = .agg #[.string a, .string b, .int .i64 i] ∧ a.size ≤ maxLen ∧ b.size ≤ maxLen ∧ (Lit.int .i64 i).wf = true := by
  obtain ⟨cs, rfl, hsz⟩ := okWide_struct Tryd.underlying23 hv
  obtain ⟨l⟩ := cs
  have hC : Tryd.prog.cellsOf 23 = 3 := by kernel_rfl
  have hI : Tryd.prog.cellsOf 2 = 1 := by kernel_rfl
  have hS : Tryd.prog.cellsOf 9 = 1 := by kernel_rfl
  match l, hsz.trans hC with
  | [c0, c1, c2], _ =>
    obtain ⟨fuel, hf⟩ := h
    obtain ⟨xs, n, _, _, _, hlen, hg⟩ := DataW.trod_struct Tryd.underlying23 hf
    match xs, hlen with
    | [y0, y1, y2], _ =>
      have g0 := hg 0 _ rfl
      have g1 := hg 1 _ rfl
      have g2 := hg 2 _ rfl
      simp [Value.cells, hI, hS] at g0 g1 g2
      obtain ⟨a0, e0, _, w0⟩ := DataW.trod_string Tryd.underlying9 g0
      obtain ⟨a1, e1, _, w1⟩ := DataW.trod_string Tryd.underlying9 g1
      obtain ⟨a2, e2, _, w2⟩ := DataW.trod_int Tryd.underlying2 g2
      simp at e0 e1 e2
      subst e0 e1 e2
      exact ⟨a0, a1, a2, rfl, w0, w1, w2⟩
end Go.Proofs.YtjchggdekbnmnaaDoor
