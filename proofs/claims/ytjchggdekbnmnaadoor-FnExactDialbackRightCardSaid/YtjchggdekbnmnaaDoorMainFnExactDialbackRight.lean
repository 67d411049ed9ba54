/- Plain: the law of DialbackRight. -/
import Derived.Test.YtjchggdekbnmnaaDoorDialbackFnExactDialbackRight
set_option linter.unusedSimpArgs false
set_option linter.unusedVariables false
namespace Go.Proofs.YtjchggdekbnmnaaDoor.QFnExactDialbackRight
open Go Go.RowKit Go.Proofs.YtjchggdekbnmnaaDoorW.PrintWords
theorem law_pure (a : ByteArray) (n : Int) (l : List S97) (ha : a.size ≤ maxLen) (hl : l.length ≤ maxLen) (hz : ∀ x ∈ l, x.f0.size ≤ maxLen ∧ x.f3.size ≤ maxLen) :
    ∃ k, laws_FnExactDialbackRight.f k a n l = some true := by
  refine ⟨2 * l.length + a.size + 1048700, ?_⟩
  generalize hk : 2 * l.length + a.size + 1048700 = k
  obtain ⟨r, e, hr⟩ := sz_all a n l ha hl hz k (by omega)
  unfold laws_FnExactDialbackRight.f
  rw [e]
  simp only [Option.bind_some]
  by_cases c : r < 0
  · rw [if_pos c]
  · rw [if_neg c]
    obtain ⟨h1, h2, h3⟩ := hr (by omega)
    have hlen : (l.map toP).length = l.length := List.length_map _
    obtain ⟨b, e1, e2⟩ := right_alike a n (l.map toP) h1 (fun x hx => by
      obtain ⟨y, hy, rfl⟩ := List.mem_map.1 hx
      exact (h3 y hy).1) (by omega) k (by omega)
    rw [to_all a n l h2 k (by omega)]
    simp only [Option.bind_some]
    rw [e1]
    simp only [Option.bind_some]
    rw [e2]
    simp only [Option.bind_some]
    rw [eq_all a n (l.map toP) (by omega) k (by omega)]
    simp
theorem law_walk (a : ByteArray) (n : Int) (A : Option Addr) (c : Nat) (l : List S97) (ha : a.size ≤ maxLen) (hc : l.length ≤ c) (hl : l.length ≤ maxLen) (hz : ∀ x ∈ l, x.f0.size ≤ maxLen ∧ x.f3.size ≤ maxLen) (w : World) (hr : Kd.C k97 w A l.length l) (hmx : MaxIs w) :
    Calls Tryd.prog 4 #[.agg #[.string a, .int .i64 n, .slice A l.length c]] w fun e w' => e = .returned (.bool true) ∧ Below w.heap.size w w' := by
  obtain ⟨k, h⟩ := law_pure a n l ha hl hz
  exact laws_FnExactDialbackRight.calls k a n A c l true w hr hc h rfl hmx
end Go.Proofs.YtjchggdekbnmnaaDoor.QFnExactDialbackRight
