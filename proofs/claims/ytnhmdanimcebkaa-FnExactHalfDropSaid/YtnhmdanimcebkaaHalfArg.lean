/- An argument that is a half (a struct of five whole numbers): what it holds when the call begins. -/
import Derived.Test.YtnhmdanimcebkaaRows
import Derived.WalkKit
import Derived.ProofKit
import Derived.OpenShut
import Derived.Lib.SmallJoins
namespace Go.Proofs.Ytnhmdanimcebkaa
open Go.Joins Go.ChangeShapes Go.WideShapes Go.RowKit

theorem half_open {H : Type} {enc : TypeId × Value → H} {w : World} {spare : Nat → Bool} {held : Bool} {base b0 : Nat} {r : Reach} {v : Value} {d : DataW H} {p : List MemPlace}
    (hv : Value.okWide Try.prog w r b0 24 v) (h : DataW.Trod enc Try.prog w base spare held 24 v d p) :
    ∃ a b c e f : Int, v = .agg #[.int .i64 a, .int .i64 b, .int .i64 c, .int .i64 e, .int .i64 f] ∧
      (Lit.int .i64 a).wf = true ∧ (Lit.int .i64 b).wf = true ∧ (Lit.int .i64 c).wf = true ∧ (Lit.int .i64 e).wf = true ∧ (Lit.int .i64 f).wf = true := by
  obtain ⟨cs, rfl, hsz⟩ := okWide_struct Try.underlying24 hv
  obtain ⟨l⟩ := cs
  have hC : Try.prog.cellsOf 24 = 5 := by kernel_rfl
  have hI : Try.prog.cellsOf 2 = 1 := by kernel_rfl
  match l, hsz.trans hC with
  | [c0, c1, c2, c3, c4], _ =>
    obtain ⟨fuel, hf⟩ := h
    obtain ⟨xs, n, _, _, _, hlen, hg⟩ := DataW.trod_struct Try.underlying24 hf
    match xs, hlen with
    | [y0, y1, y2, y3, y4], _ =>
      have g0 := hg 0 _ rfl
      have g1 := hg 1 _ rfl
      have g2 := hg 2 _ rfl
      have g3 := hg 3 _ rfl
      have g4 := hg 4 _ rfl
      simp [Value.cells, hI] at g0 g1 g2 g3 g4
      obtain ⟨a0, e0, _, w0⟩ := DataW.trod_int Try.underlying2 g0
      obtain ⟨a1, e1, _, w1⟩ := DataW.trod_int Try.underlying2 g1
      obtain ⟨a2, e2, _, w2⟩ := DataW.trod_int Try.underlying2 g2
      obtain ⟨a3, e3, _, w3⟩ := DataW.trod_int Try.underlying2 g3
      obtain ⟨a4, e4, _, w4⟩ := DataW.trod_int Try.underlying2 g4
      simp at e0 e1 e2 e3 e4
      subst e0 e1 e2 e3 e4
      exact ⟨a0, a1, a2, a3, a4, rfl, w0, w1, w2, w3, w4⟩
end Go.Proofs.Ytnhmdanimcebkaa
