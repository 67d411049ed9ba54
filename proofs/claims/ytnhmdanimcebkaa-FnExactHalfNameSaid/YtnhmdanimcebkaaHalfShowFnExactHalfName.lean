/- Plain: what a half shows, by the program and by the reference alike. -/
import Derived.Test.YtnhmdanimcebkaaHalfRightFnExactHalfName
import Derived.Test.YtnhmdanimcebkaaQFnExactHalfNamex
namespace Go.Proofs.Ytnhmdanimcebkaa.QFnExactHalfName
open Go Go.RowKit Go.Proofs.YtnhmdanimcebkaaW.PrintWords

def showB (n o t i f : Int) : ByteArray :=
  if rightB n o t i f = true then (if t = 0 then (if f = 0 then ⟨#[110, 111, 110, 101]⟩ else ⟨#[102, 114, 111, 109]⟩) else (if f = 0 then ⟨#[116, 111]⟩ else ⟨#[98, 111, 116, 104]⟩)) else ⟨#[]⟩
theorem show_spec (n o t i f : Int) : spec_HalfShow.f 2 n o t i f = some (showB n o t i f) := by
  unfold spec_HalfShow.f showB
  rw [right_spec, Option.bind_some]
  cases rightB n o t i f with
  | false => simp
  | true =>
    by_cases h1 : t = 0 <;> by_cases h2 : f = 0 <;> simp [h1, h2, spec_HalfShow.j0]
theorem show_impl (n o t i f : Int) : impl_HalfShow.f 2 n o t i f = some (showB n o t i f) := by
  unfold impl_HalfShow.f showB
  rw [right_impl, Option.bind_some]
  cases rightB n o t i f with
  | false => simp
  | true =>
    by_cases h1 : t = 0 <;> by_cases h2 : f = 0 <;> simp [h1, h2, impl_HalfShow.j0]
end Go.Proofs.Ytnhmdanimcebkaa.QFnExactHalfName
