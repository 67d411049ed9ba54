/- Proved: the law FnExactHalfShow, called with any half, answers true. -/
import Derived.Test.YtnhmdanimcebkaaHalfShowFnExactHalfShow
set_option linter.unusedVariables false
namespace Go.Proofs.Ytnhmdanimcebkaa.PFnExactHalfShow
open Go Go.RowKit Go.Proofs.YtnhmdanimcebkaaW.PrintWords

theorem tells (n o t i f : Int) : laws_FnExactHalfShow.f 2 n o t i f = some true := by
  unfold laws_FnExactHalfShow.f laws_toHalf.f
  simp only [Option.bind_some, show_impl, show_spec, if_true]
theorem core (a0 a1 a2 a3 a4 : Int) (w0 : (Lit.int .i64 a0).wf = true) (w1 : (Lit.int .i64 a1).wf = true) (w2 : (Lit.int .i64 a2).wf = true) (w3 : (Lit.int .i64 a3).wf = true) (w4 : (Lit.int .i64 a4).wf = true) (w : World) :
    Calls Try.prog 7 #[.agg #[.int .i64 a0, .int .i64 a1, .int .i64 a2, .int .i64 a3, .int .i64 a4]] w fun e w' => e = .returned (.bool true) ∧ Below w.heap.size w w' :=
  laws_FnExactHalfShow.calls 2 a0 a1 a2 a3 a4 true w (tells a0 a1 a2 a3 a4)
end Go.Proofs.Ytnhmdanimcebkaa.PFnExactHalfShow
