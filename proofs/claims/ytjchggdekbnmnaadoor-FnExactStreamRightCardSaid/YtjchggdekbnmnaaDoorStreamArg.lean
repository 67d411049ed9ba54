/- An argument that is a stream (a struct with a head in it): what it holds when the call begins. -/
import Derived.Test.YtjchggdekbnmnaaDoorRows
import Derived.WalkKit
import Derived.ProofKit
import Derived.OpenShut
import Derived.Lib.SmallJoins
namespace Go.Proofs.YtjchggdekbnmnaaDoor
open Go.Joins Go.ChangeShapes Go.WideShapes Go.RowKit

set_option maxRecDepth 100000 in
theorem stream_open {H : Type} {enc : TypeId × Value → H} {w : World} {spare : Nat → Bool} {held : Bool} {base b0 : Nat} {r : Reach} {v : Value} {d : DataW H} {p : List MemPlace}
    (hv : Value.okWide Tryd.prog w r b0 25 v) (h : DataW.Trod enc Tryd.prog w base spare held 25 v d p) :
    ∃ (a b : ByteArray) (i : Int) (c : ByteArray) (x y z : Bool), v = .agg #[.string a, .string b, .int .i64 i, .string c, .bool x, .bool y, .bool z] ∧
      a.size ≤ maxLen ∧ b.size ≤ maxLen ∧ c.size ≤ maxLen ∧ (Lit.int .i64 i).wf = true := by
  obtain ⟨cs, rfl, hsz⟩ := okWide_struct Tryd.underlying25 hv
  obtain ⟨l⟩ := cs
  have hC : Tryd.prog.cellsOf 25 = 7 := by kernel_rfl
  have hH : Tryd.prog.cellsOf 23 = 3 := by kernel_rfl
  have hI : Tryd.prog.cellsOf 2 = 1 := by kernel_rfl
  have hS : Tryd.prog.cellsOf 9 = 1 := by kernel_rfl
  have hB : Tryd.prog.cellsOf 4 = 1 := by kernel_rfl
  match l, hsz.trans hC with
  | [c0, c1, c2, c3, c4, c5, c6], _ =>
    obtain ⟨fuel, hf⟩ := h
    obtain ⟨xs, n, _, _, _, hlen, hg⟩ := DataW.trod_struct Tryd.underlying25 hf
    match xs, hlen with
    | [y0, y1, y2, y3, y4], _ =>
      have g0 := hg 0 _ rfl
      have g1 := hg 1 _ rfl
      have g2 := hg 2 _ rfl
      have g3 := hg 3 _ rfl
      have g4 := hg 4 _ rfl
      simp [Value.cells, hH, hS, hB] at g0 g1 g2 g3 g4
      obtain ⟨xs2, n2, _, _, _, hlen2, hg2⟩ := DataW.trod_struct Tryd.underlying23 g0
      match xs2, hlen2 with
      | [u0, u1, u2], _ =>
        have f0 := hg2 0 _ rfl
        have f1 := hg2 1 _ rfl
        have f2 := hg2 2 _ rfl
        simp [hS, hI] at f0 f1 f2
        obtain ⟨a0, e0, _, w0⟩ := DataW.trod_string Tryd.underlying9 f0
        obtain ⟨a1, e1, _, w1⟩ := DataW.trod_string Tryd.underlying9 f1
        obtain ⟨a2, e2, _, w2⟩ := DataW.trod_int Tryd.underlying2 f2
        obtain ⟨a3, e3, _, w3⟩ := DataW.trod_string Tryd.underlying9 g1
        obtain ⟨a4, e4, _⟩ := DataW.trod_bool Tryd.underlying4 g2
        obtain ⟨a5, e5, _⟩ := DataW.trod_bool Tryd.underlying4 g3
        obtain ⟨a6, e6, _⟩ := DataW.trod_bool Tryd.underlying4 g4
        simp at e0 e1 e2 e3 e4 e5 e6
        subst e0 e1 e2 e3 e4 e5 e6
        exact ⟨a0, a1, a2, a3, a4, a5, a6, rfl, w0, w1, w3, w2⟩
end Go.Proofs.YtjchggdekbnmnaaDoor
